/- Facts on the program's types and functions, by number; no condition. -/
import Derived.Test.YtgfdlpcdjklcoaaDoorMore3
import Derived.Test.YtgfdlpcdjklcoaaDoorPlain1
import Derived.Test.YtgfdlpcdjklcoaaDoorProg
import Derived.KernelRfl
namespace Go.Proofs.YtgfdlpcdjklcoaaDoor
open Go
theorem callOk_of {P : Program} {f : FuncId} {fn : Func} {c : Code} (hf : P.funcs[f]? = some fn) (hn : (fn.name == "runtime.NumGoroutine") = false) (hb : fn.body = some c) : CallOk P f :=
  ⟨fun args w => by simp only [callFunc, Sem.run_bind, run_program, Result.andThen_ok, hf, hn, hb]; rfl⟩

instance : TyOf Tryd.prog 1 ((Tryd.prog.underlying 1).getD .bool) := ⟨by kernel_rfl⟩
instance : ZeroOf Tryd.prog 1 (.nilFunc) := ⟨Tryd.zeroValue1⟩
instance : OneC Tryd.prog 1 := ⟨fun _ => by kernel_rfl, fun _ => by kernel_rfl⟩
instance : SzOf Tryd.prog 1 1 := ⟨fun _ => by kernel_rfl⟩
instance : TyOf Tryd.prog 2 (.int .i64) := ⟨Tryd.underlying2⟩
instance : ZeroOf Tryd.prog 2 (.int .i64 0) := ⟨Tryd.zeroValue2⟩
instance : SzOf Tryd.prog 2 1 := ⟨fun _ => by kernel_rfl⟩
instance : InfoOf Tryd.prog 2 8 := ⟨Tryd.t2, Tryd.typeInfo2, by kernel_rfl⟩
instance : OneC Tryd.prog 2 := ⟨fun _ => by kernel_rfl, fun _ => by kernel_rfl⟩
instance : TyOf Tryd.prog 3 (.int .i64) := ⟨Tryd.underlying3⟩
instance : ZeroOf Tryd.prog 3 (.int .i64 0) := ⟨Tryd.zeroValue3⟩
instance : SzOf Tryd.prog 3 1 := ⟨fun _ => by kernel_rfl⟩
instance : InfoOf Tryd.prog 3 8 := ⟨Tryd.t3, Tryd.typeInfo3, by kernel_rfl⟩
instance : OneC Tryd.prog 3 := ⟨fun _ => by kernel_rfl, fun _ => by kernel_rfl⟩
instance : TyOf Tryd.prog 4 (.bool) := ⟨Tryd.underlying4⟩
instance : ZeroOf Tryd.prog 4 (.bool false) := ⟨Tryd.zeroValue4⟩
instance : SzOf Tryd.prog 4 1 := ⟨fun _ => by kernel_rfl⟩
instance : InfoOf Tryd.prog 4 1 := ⟨Tryd.t4, Tryd.typeInfo4, by kernel_rfl⟩
instance : OneC Tryd.prog 4 := ⟨fun _ => by kernel_rfl, fun _ => by kernel_rfl⟩
instance : TyOf Tryd.prog 5 (.int .u8) := ⟨Tryd.underlying5⟩
instance : ZeroOf Tryd.prog 5 (.int .u8 0) := ⟨Tryd.zeroValue5⟩
instance : SzOf Tryd.prog 5 1 := ⟨fun _ => by kernel_rfl⟩
instance : InfoOf Tryd.prog 5 1 := ⟨Tryd.t5, Tryd.typeInfo5, by kernel_rfl⟩
instance : OneC Tryd.prog 5 := ⟨fun _ => by kernel_rfl, fun _ => by kernel_rfl⟩
instance : TyOf Tryd.prog 6 (.int .u8) := ⟨Tryd.underlying6⟩
instance : ZeroOf Tryd.prog 6 (.int .u8 0) := ⟨Tryd.zeroValue6⟩
instance : SzOf Tryd.prog 6 1 := ⟨fun _ => by kernel_rfl⟩
instance : InfoOf Tryd.prog 6 1 := ⟨Tryd.t6, Tryd.typeInfo6, by kernel_rfl⟩
instance : OneC Tryd.prog 6 := ⟨fun _ => by kernel_rfl, fun _ => by kernel_rfl⟩
instance : TyOf Tryd.prog 7 ((Tryd.prog.underlying 7).getD .bool) := ⟨by kernel_rfl⟩
instance : ZeroOf Tryd.prog 7 (.agg #[.int .i64 0, .int .i64 0, .bool false, .int .u8 0]) := ⟨Tryd.zeroValue7⟩
instance : SzOf Tryd.prog 7 4 := ⟨fun _ => by kernel_rfl⟩
instance : InfoOf Tryd.prog 7 24 := ⟨Tryd.t7, Tryd.typeInfo7, by kernel_rfl⟩
instance : AggC Tryd.prog 7 4 := ⟨fun _ => by kernel_rfl, fun _ => by kernel_rfl⟩
instance : StructPl Tryd.prog 7 #[(0, 1), (1, 1), (2, 1), (3, 1)] := ⟨_, Tryd.underlying7, fun _ => by kernel_rfl⟩
instance : FldC Tryd.prog 7 0 0 := ⟨_, Tryd.underlying7, _, rfl, rfl, 1, fun _ => by kernel_rfl, by decide⟩
instance : FldC Tryd.prog 7 1 1 := ⟨_, Tryd.underlying7, _, rfl, rfl, 1, fun _ => by kernel_rfl, by decide⟩
instance : FldC Tryd.prog 7 2 2 := ⟨_, Tryd.underlying7, _, rfl, rfl, 1, fun _ => by kernel_rfl, by decide⟩
instance : FldC Tryd.prog 7 3 3 := ⟨_, Tryd.underlying7, _, rfl, rfl, 1, fun _ => by kernel_rfl, by decide⟩
instance : TyOf Tryd.prog 8 ((Tryd.prog.underlying 8).getD .bool) := ⟨by kernel_rfl⟩
instance : ZeroOf Tryd.prog 8 (.agg #[.int .i64 0, .int .i64 0, .bool false, .int .u8 0]) := ⟨Tryd.zeroValue8⟩
instance : SzOf Tryd.prog 8 4 := ⟨fun _ => by kernel_rfl⟩
instance : InfoOf Tryd.prog 8 24 := ⟨Tryd.t8, Tryd.typeInfo8, by kernel_rfl⟩
instance : AggC Tryd.prog 8 4 := ⟨fun _ => by kernel_rfl, fun _ => by kernel_rfl⟩
instance : StructPl Tryd.prog 8 #[(0, 1), (1, 1), (2, 1), (3, 1)] := ⟨_, Tryd.underlying8, fun _ => by kernel_rfl⟩
instance : FldC Tryd.prog 8 0 0 := ⟨_, Tryd.underlying8, _, rfl, rfl, 1, fun _ => by kernel_rfl, by decide⟩
instance : FldC Tryd.prog 8 1 1 := ⟨_, Tryd.underlying8, _, rfl, rfl, 1, fun _ => by kernel_rfl, by decide⟩
instance : FldC Tryd.prog 8 2 2 := ⟨_, Tryd.underlying8, _, rfl, rfl, 1, fun _ => by kernel_rfl, by decide⟩
instance : FldC Tryd.prog 8 3 3 := ⟨_, Tryd.underlying8, _, rfl, rfl, 1, fun _ => by kernel_rfl, by decide⟩
instance : TyOf Tryd.prog 9 (.string) := ⟨Tryd.underlying9⟩
instance : ZeroOf Tryd.prog 9 (.string { data := #[] }) := ⟨Tryd.zeroValue9⟩
instance : SzOf Tryd.prog 9 1 := ⟨fun _ => by kernel_rfl⟩
instance : InfoOf Tryd.prog 9 16 := ⟨Tryd.t9, Tryd.typeInfo9, by kernel_rfl⟩
instance : OneC Tryd.prog 9 := ⟨fun _ => by kernel_rfl, fun _ => by kernel_rfl⟩
instance : TyOf Tryd.prog 10 (.string) := ⟨Tryd.underlying10⟩
instance : ZeroOf Tryd.prog 10 (.string { data := #[] }) := ⟨Tryd.zeroValue10⟩
instance : SzOf Tryd.prog 10 1 := ⟨fun _ => by kernel_rfl⟩
instance : InfoOf Tryd.prog 10 16 := ⟨Tryd.t10, Tryd.typeInfo10, by kernel_rfl⟩
instance : OneC Tryd.prog 10 := ⟨fun _ => by kernel_rfl, fun _ => by kernel_rfl⟩
instance : TyOf Tryd.prog 11 (.string) := ⟨Tryd.underlying11⟩
instance : ZeroOf Tryd.prog 11 (.string { data := #[] }) := ⟨Tryd.zeroValue11⟩
instance : SzOf Tryd.prog 11 1 := ⟨fun _ => by kernel_rfl⟩
instance : InfoOf Tryd.prog 11 16 := ⟨Tryd.t11, Tryd.typeInfo11, by kernel_rfl⟩
instance : OneC Tryd.prog 11 := ⟨fun _ => by kernel_rfl, fun _ => by kernel_rfl⟩
instance : TyOf Tryd.prog 12 (.int .u64) := ⟨Tryd.underlying12⟩
instance : ZeroOf Tryd.prog 12 (.int .u64 0) := ⟨Tryd.zeroValue12⟩
instance : SzOf Tryd.prog 12 1 := ⟨fun _ => by kernel_rfl⟩
instance : InfoOf Tryd.prog 12 8 := ⟨Tryd.t12, Tryd.typeInfo12, by kernel_rfl⟩
instance : OneC Tryd.prog 12 := ⟨fun _ => by kernel_rfl, fun _ => by kernel_rfl⟩
instance : TyOf Tryd.prog 13 ((Tryd.prog.underlying 13).getD .bool) := ⟨by kernel_rfl⟩
instance : ZeroOf Tryd.prog 13 (.agg #[.string { data := #[] }, .int .u64 0]) := ⟨Tryd.zeroValue13⟩
instance : SzOf Tryd.prog 13 2 := ⟨fun _ => by kernel_rfl⟩
instance : InfoOf Tryd.prog 13 24 := ⟨Tryd.t13, Tryd.typeInfo13, by kernel_rfl⟩
instance : AggC Tryd.prog 13 2 := ⟨fun _ => by kernel_rfl, fun _ => by kernel_rfl⟩
instance : StructPl Tryd.prog 13 #[(0, 1), (1, 1)] := ⟨_, Tryd.underlying13, fun _ => by kernel_rfl⟩
instance : FldC Tryd.prog 13 0 0 := ⟨_, Tryd.underlying13, _, rfl, rfl, 1, fun _ => by kernel_rfl, by decide⟩
instance : FldC Tryd.prog 13 1 1 := ⟨_, Tryd.underlying13, _, rfl, rfl, 1, fun _ => by kernel_rfl, by decide⟩
instance : TyOf Tryd.prog 14 ((Tryd.prog.underlying 14).getD .bool) := ⟨by kernel_rfl⟩
instance : ZeroOf Tryd.prog 14 (.agg #[.string { data := #[] }, .int .u64 0]) := ⟨Tryd.zeroValue14⟩
instance : SzOf Tryd.prog 14 2 := ⟨fun _ => by kernel_rfl⟩
instance : InfoOf Tryd.prog 14 24 := ⟨Tryd.t14, Tryd.typeInfo14, by kernel_rfl⟩
instance : AggC Tryd.prog 14 2 := ⟨fun _ => by kernel_rfl, fun _ => by kernel_rfl⟩
instance : StructPl Tryd.prog 14 #[(0, 1), (1, 1)] := ⟨_, Tryd.underlying14, fun _ => by kernel_rfl⟩
instance : FldC Tryd.prog 14 0 0 := ⟨_, Tryd.underlying14, _, rfl, rfl, 1, fun _ => by kernel_rfl, by decide⟩
instance : FldC Tryd.prog 14 1 1 := ⟨_, Tryd.underlying14, _, rfl, rfl, 1, fun _ => by kernel_rfl, by decide⟩
instance : TyOf Tryd.prog 15 (.pointer 156) := ⟨Tryd.underlying15⟩
instance : ZeroOf Tryd.prog 15 (.pointer none) := ⟨Tryd.zeroValue15⟩
instance : SzOf Tryd.prog 15 1 := ⟨fun _ => by kernel_rfl⟩
instance : InfoOf Tryd.prog 15 8 := ⟨Tryd.t15, Tryd.typeInfo15, by kernel_rfl⟩
instance : OneC Tryd.prog 15 := ⟨fun _ => by kernel_rfl, fun _ => by kernel_rfl⟩
instance : TyOf Tryd.prog 16 (.pointer 159) := ⟨Tryd.underlying16⟩
instance : ZeroOf Tryd.prog 16 (.pointer none) := ⟨Tryd.zeroValue16⟩
instance : SzOf Tryd.prog 16 1 := ⟨fun _ => by kernel_rfl⟩
instance : InfoOf Tryd.prog 16 8 := ⟨Tryd.t16, Tryd.typeInfo16, by kernel_rfl⟩
instance : OneC Tryd.prog 16 := ⟨fun _ => by kernel_rfl, fun _ => by kernel_rfl⟩
instance : TyOf Tryd.prog 17 (.pointer 168) := ⟨Tryd.underlying17⟩
instance : ZeroOf Tryd.prog 17 (.pointer none) := ⟨Tryd.zeroValue17⟩
instance : SzOf Tryd.prog 17 1 := ⟨fun _ => by kernel_rfl⟩
instance : InfoOf Tryd.prog 17 8 := ⟨Tryd.t17, Tryd.typeInfo17, by kernel_rfl⟩
instance : OneC Tryd.prog 17 := ⟨fun _ => by kernel_rfl, fun _ => by kernel_rfl⟩
instance : TyOf Tryd.prog 18 ((Tryd.prog.underlying 18).getD .bool) := ⟨by kernel_rfl⟩
instance : ZeroOf Tryd.prog 18 (.agg #[.pointer none]) := ⟨Tryd.zeroValue18⟩
instance : SzOf Tryd.prog 18 1 := ⟨fun _ => by kernel_rfl⟩
instance : InfoOf Tryd.prog 18 8 := ⟨Tryd.t18, Tryd.typeInfo18, by kernel_rfl⟩
instance : AggC Tryd.prog 18 1 := ⟨fun _ => by kernel_rfl, fun _ => by kernel_rfl⟩
instance : StructPl Tryd.prog 18 #[(0, 1)] := ⟨_, Tryd.underlying18, fun _ => by kernel_rfl⟩
instance : FldC Tryd.prog 18 0 0 := ⟨_, Tryd.underlying18, _, rfl, rfl, 1, fun _ => by kernel_rfl, by decide⟩
instance : TyOf Tryd.prog 19 ((Tryd.prog.underlying 19).getD .bool) := ⟨by kernel_rfl⟩
instance : ZeroOf Tryd.prog 19 (.agg #[.pointer none]) := ⟨Tryd.zeroValue19⟩
instance : SzOf Tryd.prog 19 1 := ⟨fun _ => by kernel_rfl⟩
instance : InfoOf Tryd.prog 19 8 := ⟨Tryd.t19, Tryd.typeInfo19, by kernel_rfl⟩
instance : AggC Tryd.prog 19 1 := ⟨fun _ => by kernel_rfl, fun _ => by kernel_rfl⟩
instance : StructPl Tryd.prog 19 #[(0, 1)] := ⟨_, Tryd.underlying19, fun _ => by kernel_rfl⟩
instance : FldC Tryd.prog 19 0 0 := ⟨_, Tryd.underlying19, _, rfl, rfl, 1, fun _ => by kernel_rfl, by decide⟩
instance : TyOf Tryd.prog 20 (.interface #[]) := ⟨Tryd.underlying20⟩
instance : ZeroOf Tryd.prog 20 (.nilIface) := ⟨Tryd.zeroValue20⟩
instance : SzOf Tryd.prog 20 1 := ⟨fun _ => by kernel_rfl⟩
instance : InfoOf Tryd.prog 20 16 := ⟨Tryd.t20, Tryd.typeInfo20, by kernel_rfl⟩
instance : OneC Tryd.prog 20 := ⟨fun _ => by kernel_rfl, fun _ => by kernel_rfl⟩
instance : TyOf Tryd.prog 21 (.int .i32) := ⟨Tryd.underlying21⟩
instance : ZeroOf Tryd.prog 21 (.int .i32 0) := ⟨Tryd.zeroValue21⟩
instance : SzOf Tryd.prog 21 1 := ⟨fun _ => by kernel_rfl⟩
instance : InfoOf Tryd.prog 21 4 := ⟨Tryd.t21, Tryd.typeInfo21, by kernel_rfl⟩
instance : OneC Tryd.prog 21 := ⟨fun _ => by kernel_rfl, fun _ => by kernel_rfl⟩
instance : TyOf Tryd.prog 22 (.array 16 5) := ⟨Tryd.underlying22⟩
instance : ZeroOf Tryd.prog 22 (.agg #[.int .u8 0, .int .u8 0, .int .u8 0, .int .u8 0, .int .u8 0, .int .u8 0, .int .u8 0, .int .u8 0, .int .u8 0, .int .u8 0, .int .u8 0, .int .u8 0, .int .u8 0, .int .u8 0, .int .u8 0, .int .u8 0]) := ⟨Tryd.zeroValue22⟩
instance : SzOf Tryd.prog 22 16 := ⟨fun _ => by kernel_rfl⟩
instance : InfoOf Tryd.prog 22 16 := ⟨Tryd.t22, Tryd.typeInfo22, by kernel_rfl⟩
instance : AggC Tryd.prog 22 16 := ⟨fun _ => by kernel_rfl, fun _ => by kernel_rfl⟩
instance : TyOf Tryd.prog 23 (.array 16 5) := ⟨Tryd.underlying23⟩
instance : ZeroOf Tryd.prog 23 (.agg #[.int .u8 0, .int .u8 0, .int .u8 0, .int .u8 0, .int .u8 0, .int .u8 0, .int .u8 0, .int .u8 0, .int .u8 0, .int .u8 0, .int .u8 0, .int .u8 0, .int .u8 0, .int .u8 0, .int .u8 0, .int .u8 0]) := ⟨Tryd.zeroValue23⟩
instance : SzOf Tryd.prog 23 16 := ⟨fun _ => by kernel_rfl⟩
instance : InfoOf Tryd.prog 23 16 := ⟨Tryd.t23, Tryd.typeInfo23, by kernel_rfl⟩
instance : AggC Tryd.prog 23 16 := ⟨fun _ => by kernel_rfl, fun _ => by kernel_rfl⟩
instance : TyOf Tryd.prog 24 (.int .u64) := ⟨Tryd.underlying24⟩
instance : ZeroOf Tryd.prog 24 (.int .u64 0) := ⟨Tryd.zeroValue24⟩
instance : SzOf Tryd.prog 24 1 := ⟨fun _ => by kernel_rfl⟩
instance : InfoOf Tryd.prog 24 8 := ⟨Tryd.t24, Tryd.typeInfo24, by kernel_rfl⟩
instance : OneC Tryd.prog 24 := ⟨fun _ => by kernel_rfl, fun _ => by kernel_rfl⟩
instance : TyOf Tryd.prog 25 ((Tryd.prog.underlying 25).getD .bool) := ⟨by kernel_rfl⟩
instance : ZeroOf Tryd.prog 25 (.nilFunc) := ⟨Tryd.zeroValue25⟩
instance : OneC Tryd.prog 25 := ⟨fun _ => by kernel_rfl, fun _ => by kernel_rfl⟩
instance : SzOf Tryd.prog 25 1 := ⟨fun _ => by kernel_rfl⟩
instance : TyOf Tryd.prog 26 (.slice 5) := ⟨Tryd.underlying26⟩
instance : ZeroOf Tryd.prog 26 (.slice none 0 0) := ⟨Tryd.zeroValue26⟩
instance : SzOf Tryd.prog 26 1 := ⟨fun _ => by kernel_rfl⟩
instance : InfoOf Tryd.prog 26 24 := ⟨Tryd.t26, Tryd.typeInfo26, by kernel_rfl⟩
instance : OneC Tryd.prog 26 := ⟨fun _ => by kernel_rfl, fun _ => by kernel_rfl⟩
instance : TyOf Tryd.prog 27 ((Tryd.prog.underlying 27).getD .bool) := ⟨by kernel_rfl⟩
instance : ZeroOf Tryd.prog 27 (.nilFunc) := ⟨Tryd.zeroValue27⟩
instance : OneC Tryd.prog 27 := ⟨fun _ => by kernel_rfl, fun _ => by kernel_rfl⟩
instance : SzOf Tryd.prog 27 1 := ⟨fun _ => by kernel_rfl⟩
instance : TyOf Tryd.prog 28 ((Tryd.prog.underlying 28).getD .bool) := ⟨by kernel_rfl⟩
instance : ZeroOf Tryd.prog 28 (.nilFunc) := ⟨Tryd.zeroValue28⟩
instance : OneC Tryd.prog 28 := ⟨fun _ => by kernel_rfl, fun _ => by kernel_rfl⟩
instance : SzOf Tryd.prog 28 1 := ⟨fun _ => by kernel_rfl⟩
instance : TyOf Tryd.prog 29 ((Tryd.prog.underlying 29).getD .bool) := ⟨by kernel_rfl⟩
instance : ZeroOf Tryd.prog 29 (.nilFunc) := ⟨Tryd.zeroValue29⟩
instance : OneC Tryd.prog 29 := ⟨fun _ => by kernel_rfl, fun _ => by kernel_rfl⟩
instance : SzOf Tryd.prog 29 1 := ⟨fun _ => by kernel_rfl⟩
instance : TyOf Tryd.prog 30 (.int .u64) := ⟨Tryd.underlying30⟩
instance : ZeroOf Tryd.prog 30 (.int .u64 0) := ⟨Tryd.zeroValue30⟩
instance : SzOf Tryd.prog 30 1 := ⟨fun _ => by kernel_rfl⟩
instance : InfoOf Tryd.prog 30 8 := ⟨Tryd.t30, Tryd.typeInfo30, by kernel_rfl⟩
instance : OneC Tryd.prog 30 := ⟨fun _ => by kernel_rfl, fun _ => by kernel_rfl⟩
instance : TyOf Tryd.prog 31 (.int .i64) := ⟨Tryd.underlying31⟩
instance : ZeroOf Tryd.prog 31 (.int .i64 0) := ⟨Tryd.zeroValue31⟩
instance : SzOf Tryd.prog 31 1 := ⟨fun _ => by kernel_rfl⟩
instance : InfoOf Tryd.prog 31 8 := ⟨Tryd.t31, Tryd.typeInfo31, by kernel_rfl⟩
instance : OneC Tryd.prog 31 := ⟨fun _ => by kernel_rfl, fun _ => by kernel_rfl⟩
instance : TyOf Tryd.prog 33 ((Tryd.prog.underlying 33).getD .bool) := ⟨by kernel_rfl⟩
instance : ZeroOf Tryd.prog 33 (.nilFunc) := ⟨Tryd.zeroValue33⟩
instance : OneC Tryd.prog 33 := ⟨fun _ => by kernel_rfl, fun _ => by kernel_rfl⟩
instance : SzOf Tryd.prog 33 1 := ⟨fun _ => by kernel_rfl⟩
instance : TyOf Tryd.prog 35 ((Tryd.prog.underlying 35).getD .bool) := ⟨by kernel_rfl⟩
instance : ZeroOf Tryd.prog 35 (.nilFunc) := ⟨Tryd.zeroValue35⟩
instance : OneC Tryd.prog 35 := ⟨fun _ => by kernel_rfl, fun _ => by kernel_rfl⟩
instance : SzOf Tryd.prog 35 1 := ⟨fun _ => by kernel_rfl⟩
instance : TyOf Tryd.prog 36 ((Tryd.prog.underlying 36).getD .bool) := ⟨by kernel_rfl⟩
instance : ZeroOf Tryd.prog 36 (.nilFunc) := ⟨Tryd.zeroValue36⟩
instance : OneC Tryd.prog 36 := ⟨fun _ => by kernel_rfl, fun _ => by kernel_rfl⟩
instance : SzOf Tryd.prog 36 1 := ⟨fun _ => by kernel_rfl⟩
instance : TyOf Tryd.prog 37 (.slice 46) := ⟨Tryd.underlying37⟩
instance : ZeroOf Tryd.prog 37 (.slice none 0 0) := ⟨Tryd.zeroValue37⟩
instance : SzOf Tryd.prog 37 1 := ⟨fun _ => by kernel_rfl⟩
instance : InfoOf Tryd.prog 37 24 := ⟨Tryd.t37, Tryd.typeInfo37, by kernel_rfl⟩
instance : OneC Tryd.prog 37 := ⟨fun _ => by kernel_rfl, fun _ => by kernel_rfl⟩
instance : TyOf Tryd.prog 39 ((Tryd.prog.underlying 39).getD .bool) := ⟨by kernel_rfl⟩
instance : ZeroOf Tryd.prog 39 (.nilFunc) := ⟨Tryd.zeroValue39⟩
instance : OneC Tryd.prog 39 := ⟨fun _ => by kernel_rfl, fun _ => by kernel_rfl⟩
instance : SzOf Tryd.prog 39 1 := ⟨fun _ => by kernel_rfl⟩
instance : TyOf Tryd.prog 41 ((Tryd.prog.underlying 41).getD .bool) := ⟨by kernel_rfl⟩
instance : ZeroOf Tryd.prog 41 (.nilFunc) := ⟨Tryd.zeroValue41⟩
instance : OneC Tryd.prog 41 := ⟨fun _ => by kernel_rfl, fun _ => by kernel_rfl⟩
instance : SzOf Tryd.prog 41 1 := ⟨fun _ => by kernel_rfl⟩
instance : TyOf Tryd.prog 42 ((Tryd.prog.underlying 42).getD .bool) := ⟨by kernel_rfl⟩
instance : ZeroOf Tryd.prog 42 (.nilFunc) := ⟨Tryd.zeroValue42⟩
instance : OneC Tryd.prog 42 := ⟨fun _ => by kernel_rfl, fun _ => by kernel_rfl⟩
instance : SzOf Tryd.prog 42 1 := ⟨fun _ => by kernel_rfl⟩
instance : TyOf Tryd.prog 43 ((Tryd.prog.underlying 43).getD .bool) := ⟨by kernel_rfl⟩
instance : ZeroOf Tryd.prog 43 (.nilFunc) := ⟨Tryd.zeroValue43⟩
instance : OneC Tryd.prog 43 := ⟨fun _ => by kernel_rfl, fun _ => by kernel_rfl⟩
instance : SzOf Tryd.prog 43 1 := ⟨fun _ => by kernel_rfl⟩
instance : TyOf Tryd.prog 44 (.slice 62) := ⟨Tryd.underlying44⟩
instance : ZeroOf Tryd.prog 44 (.slice none 0 0) := ⟨Tryd.zeroValue44⟩
instance : SzOf Tryd.prog 44 1 := ⟨fun _ => by kernel_rfl⟩
instance : InfoOf Tryd.prog 44 24 := ⟨Tryd.t44, Tryd.typeInfo44, by kernel_rfl⟩
instance : OneC Tryd.prog 44 := ⟨fun _ => by kernel_rfl, fun _ => by kernel_rfl⟩
instance : TyOf Tryd.prog 45 ((Tryd.prog.underlying 45).getD .bool) := ⟨by kernel_rfl⟩
instance : ZeroOf Tryd.prog 45 (.agg #[.int .i64 0, .int .i64 0, .int .u64 0, .int .u64 0, .bool false, .string { data := #[] }, .slice none 0 0]) := ⟨Tryd.zeroValue45⟩
instance : SzOf Tryd.prog 45 7 := ⟨fun _ => by kernel_rfl⟩
instance : InfoOf Tryd.prog 45 80 := ⟨Tryd.t45, Tryd.typeInfo45, by kernel_rfl⟩
instance : AggC Tryd.prog 45 7 := ⟨fun _ => by kernel_rfl, fun _ => by kernel_rfl⟩
instance : StructPl Tryd.prog 45 #[(0, 1), (1, 1), (2, 1), (3, 1), (4, 1), (5, 1), (6, 1)] := ⟨_, Tryd.underlying45, fun _ => by kernel_rfl⟩
instance : FldC Tryd.prog 45 0 0 := ⟨_, Tryd.underlying45, _, rfl, rfl, 1, fun _ => by kernel_rfl, by decide⟩
instance : FldC Tryd.prog 45 1 1 := ⟨_, Tryd.underlying45, _, rfl, rfl, 1, fun _ => by kernel_rfl, by decide⟩
instance : FldC Tryd.prog 45 2 2 := ⟨_, Tryd.underlying45, _, rfl, rfl, 1, fun _ => by kernel_rfl, by decide⟩
instance : FldC Tryd.prog 45 3 3 := ⟨_, Tryd.underlying45, _, rfl, rfl, 1, fun _ => by kernel_rfl, by decide⟩
instance : FldC Tryd.prog 45 4 4 := ⟨_, Tryd.underlying45, _, rfl, rfl, 1, fun _ => by kernel_rfl, by decide⟩
instance : FldC Tryd.prog 45 5 5 := ⟨_, Tryd.underlying45, _, rfl, rfl, 1, fun _ => by kernel_rfl, by decide⟩
instance : FldC Tryd.prog 45 6 6 := ⟨_, Tryd.underlying45, _, rfl, rfl, 1, fun _ => by kernel_rfl, by decide⟩
instance : TyOf Tryd.prog 46 ((Tryd.prog.underlying 46).getD .bool) := ⟨by kernel_rfl⟩
instance : ZeroOf Tryd.prog 46 (.agg #[.int .i64 0, .int .i64 0, .int .u64 0, .int .u64 0, .bool false, .string { data := #[] }, .slice none 0 0]) := ⟨Tryd.zeroValue46⟩
instance : SzOf Tryd.prog 46 7 := ⟨fun _ => by kernel_rfl⟩
instance : InfoOf Tryd.prog 46 80 := ⟨Tryd.t46, Tryd.typeInfo46, by kernel_rfl⟩
instance : AggC Tryd.prog 46 7 := ⟨fun _ => by kernel_rfl, fun _ => by kernel_rfl⟩
instance : StructPl Tryd.prog 46 #[(0, 1), (1, 1), (2, 1), (3, 1), (4, 1), (5, 1), (6, 1)] := ⟨_, Tryd.underlying46, fun _ => by kernel_rfl⟩
instance : FldC Tryd.prog 46 0 0 := ⟨_, Tryd.underlying46, _, rfl, rfl, 1, fun _ => by kernel_rfl, by decide⟩
instance : FldC Tryd.prog 46 1 1 := ⟨_, Tryd.underlying46, _, rfl, rfl, 1, fun _ => by kernel_rfl, by decide⟩
instance : FldC Tryd.prog 46 2 2 := ⟨_, Tryd.underlying46, _, rfl, rfl, 1, fun _ => by kernel_rfl, by decide⟩
instance : FldC Tryd.prog 46 3 3 := ⟨_, Tryd.underlying46, _, rfl, rfl, 1, fun _ => by kernel_rfl, by decide⟩
instance : FldC Tryd.prog 46 4 4 := ⟨_, Tryd.underlying46, _, rfl, rfl, 1, fun _ => by kernel_rfl, by decide⟩
instance : FldC Tryd.prog 46 5 5 := ⟨_, Tryd.underlying46, _, rfl, rfl, 1, fun _ => by kernel_rfl, by decide⟩
instance : FldC Tryd.prog 46 6 6 := ⟨_, Tryd.underlying46, _, rfl, rfl, 1, fun _ => by kernel_rfl, by decide⟩
instance : TyOf Tryd.prog 47 ((Tryd.prog.underlying 47).getD .bool) := ⟨by kernel_rfl⟩
instance : ZeroOf Tryd.prog 47 (.nilFunc) := ⟨Tryd.zeroValue47⟩
instance : OneC Tryd.prog 47 := ⟨fun _ => by kernel_rfl, fun _ => by kernel_rfl⟩
instance : SzOf Tryd.prog 47 1 := ⟨fun _ => by kernel_rfl⟩
instance : TyOf Tryd.prog 48 ((Tryd.prog.underlying 48).getD .bool) := ⟨by kernel_rfl⟩
instance : ZeroOf Tryd.prog 48 (.nilFunc) := ⟨Tryd.zeroValue48⟩
instance : OneC Tryd.prog 48 := ⟨fun _ => by kernel_rfl, fun _ => by kernel_rfl⟩
instance : SzOf Tryd.prog 48 1 := ⟨fun _ => by kernel_rfl⟩
instance : TyOf Tryd.prog 49 ((Tryd.prog.underlying 49).getD .bool) := ⟨by kernel_rfl⟩
instance : ZeroOf Tryd.prog 49 (.nilFunc) := ⟨Tryd.zeroValue49⟩
instance : OneC Tryd.prog 49 := ⟨fun _ => by kernel_rfl, fun _ => by kernel_rfl⟩
instance : SzOf Tryd.prog 49 1 := ⟨fun _ => by kernel_rfl⟩
instance : TyOf Tryd.prog 50 (.array 4 24) := ⟨Tryd.underlying50⟩
instance : ZeroOf Tryd.prog 50 (.agg #[.int .u64 0, .int .u64 0, .int .u64 0, .int .u64 0]) := ⟨Tryd.zeroValue50⟩
instance : SzOf Tryd.prog 50 4 := ⟨fun _ => by kernel_rfl⟩
instance : InfoOf Tryd.prog 50 32 := ⟨Tryd.t50, Tryd.typeInfo50, by kernel_rfl⟩
instance : AggC Tryd.prog 50 4 := ⟨fun _ => by kernel_rfl, fun _ => by kernel_rfl⟩
instance : TyOf Tryd.prog 51 ((Tryd.prog.underlying 51).getD .bool) := ⟨by kernel_rfl⟩
instance : ZeroOf Tryd.prog 51 (.nilFunc) := ⟨Tryd.zeroValue51⟩
instance : OneC Tryd.prog 51 := ⟨fun _ => by kernel_rfl, fun _ => by kernel_rfl⟩
instance : SzOf Tryd.prog 51 1 := ⟨fun _ => by kernel_rfl⟩
instance : TyOf Tryd.prog 52 ((Tryd.prog.underlying 52).getD .bool) := ⟨by kernel_rfl⟩
instance : ZeroOf Tryd.prog 52 (.nilFunc) := ⟨Tryd.zeroValue52⟩
instance : OneC Tryd.prog 52 := ⟨fun _ => by kernel_rfl, fun _ => by kernel_rfl⟩
instance : SzOf Tryd.prog 52 1 := ⟨fun _ => by kernel_rfl⟩
instance : TyOf Tryd.prog 53 ((Tryd.prog.underlying 53).getD .bool) := ⟨by kernel_rfl⟩
instance : ZeroOf Tryd.prog 53 (.nilFunc) := ⟨Tryd.zeroValue53⟩
instance : OneC Tryd.prog 53 := ⟨fun _ => by kernel_rfl, fun _ => by kernel_rfl⟩
instance : SzOf Tryd.prog 53 1 := ⟨fun _ => by kernel_rfl⟩
instance : TyOf Tryd.prog 54 (.interface #[("Error", 94)]) := ⟨Tryd.underlying54⟩
instance : ZeroOf Tryd.prog 54 (.nilIface) := ⟨Tryd.zeroValue54⟩
instance : SzOf Tryd.prog 54 1 := ⟨fun _ => by kernel_rfl⟩
instance : InfoOf Tryd.prog 54 16 := ⟨Tryd.t54, Tryd.typeInfo54, by kernel_rfl⟩
instance : OneC Tryd.prog 54 := ⟨fun _ => by kernel_rfl, fun _ => by kernel_rfl⟩
instance : TyOf Tryd.prog 55 (.interface #[("Error", 94)]) := ⟨Tryd.underlying55⟩
instance : ZeroOf Tryd.prog 55 (.nilIface) := ⟨Tryd.zeroValue55⟩
instance : SzOf Tryd.prog 55 1 := ⟨fun _ => by kernel_rfl⟩
instance : InfoOf Tryd.prog 55 16 := ⟨Tryd.t55, Tryd.typeInfo55, by kernel_rfl⟩
instance : OneC Tryd.prog 55 := ⟨fun _ => by kernel_rfl, fun _ => by kernel_rfl⟩
instance : TyOf Tryd.prog 57 ((Tryd.prog.underlying 57).getD .bool) := ⟨by kernel_rfl⟩
instance : ZeroOf Tryd.prog 57 (.nilFunc) := ⟨Tryd.zeroValue57⟩
instance : OneC Tryd.prog 57 := ⟨fun _ => by kernel_rfl, fun _ => by kernel_rfl⟩
instance : SzOf Tryd.prog 57 1 := ⟨fun _ => by kernel_rfl⟩
instance : TyOf Tryd.prog 58 ((Tryd.prog.underlying 58).getD .bool) := ⟨by kernel_rfl⟩
instance : ZeroOf Tryd.prog 58 (.nilFunc) := ⟨Tryd.zeroValue58⟩
instance : OneC Tryd.prog 58 := ⟨fun _ => by kernel_rfl, fun _ => by kernel_rfl⟩
instance : SzOf Tryd.prog 58 1 := ⟨fun _ => by kernel_rfl⟩
instance : TyOf Tryd.prog 60 ((Tryd.prog.underlying 60).getD .bool) := ⟨by kernel_rfl⟩
instance : ZeroOf Tryd.prog 60 (.nilFunc) := ⟨Tryd.zeroValue60⟩
instance : OneC Tryd.prog 60 := ⟨fun _ => by kernel_rfl, fun _ => by kernel_rfl⟩
instance : SzOf Tryd.prog 60 1 := ⟨fun _ => by kernel_rfl⟩
instance : TyOf Tryd.prog 61 ((Tryd.prog.underlying 61).getD .bool) := ⟨by kernel_rfl⟩
instance : ZeroOf Tryd.prog 61 (.agg #[.int .u64 0, .int .u64 0]) := ⟨Tryd.zeroValue61⟩
instance : SzOf Tryd.prog 61 2 := ⟨fun _ => by kernel_rfl⟩
instance : InfoOf Tryd.prog 61 16 := ⟨Tryd.t61, Tryd.typeInfo61, by kernel_rfl⟩
instance : AggC Tryd.prog 61 2 := ⟨fun _ => by kernel_rfl, fun _ => by kernel_rfl⟩
instance : StructPl Tryd.prog 61 #[(0, 1), (1, 1)] := ⟨_, Tryd.underlying61, fun _ => by kernel_rfl⟩
instance : FldC Tryd.prog 61 0 0 := ⟨_, Tryd.underlying61, _, rfl, rfl, 1, fun _ => by kernel_rfl, by decide⟩
instance : FldC Tryd.prog 61 1 1 := ⟨_, Tryd.underlying61, _, rfl, rfl, 1, fun _ => by kernel_rfl, by decide⟩
instance : TyOf Tryd.prog 62 ((Tryd.prog.underlying 62).getD .bool) := ⟨by kernel_rfl⟩
instance : ZeroOf Tryd.prog 62 (.agg #[.int .u64 0, .int .u64 0]) := ⟨Tryd.zeroValue62⟩
instance : SzOf Tryd.prog 62 2 := ⟨fun _ => by kernel_rfl⟩
instance : InfoOf Tryd.prog 62 16 := ⟨Tryd.t62, Tryd.typeInfo62, by kernel_rfl⟩
instance : AggC Tryd.prog 62 2 := ⟨fun _ => by kernel_rfl, fun _ => by kernel_rfl⟩
instance : StructPl Tryd.prog 62 #[(0, 1), (1, 1)] := ⟨_, Tryd.underlying62, fun _ => by kernel_rfl⟩
instance : FldC Tryd.prog 62 0 0 := ⟨_, Tryd.underlying62, _, rfl, rfl, 1, fun _ => by kernel_rfl, by decide⟩
instance : FldC Tryd.prog 62 1 1 := ⟨_, Tryd.underlying62, _, rfl, rfl, 1, fun _ => by kernel_rfl, by decide⟩
instance : TyOf Tryd.prog 63 ((Tryd.prog.underlying 63).getD .bool) := ⟨by kernel_rfl⟩
instance : ZeroOf Tryd.prog 63 (.nilFunc) := ⟨Tryd.zeroValue63⟩
instance : OneC Tryd.prog 63 := ⟨fun _ => by kernel_rfl, fun _ => by kernel_rfl⟩
instance : SzOf Tryd.prog 63 1 := ⟨fun _ => by kernel_rfl⟩
instance : TyOf Tryd.prog 64 ((Tryd.prog.underlying 64).getD .bool) := ⟨by kernel_rfl⟩
instance : ZeroOf Tryd.prog 64 (.nilFunc) := ⟨Tryd.zeroValue64⟩
instance : OneC Tryd.prog 64 := ⟨fun _ => by kernel_rfl, fun _ => by kernel_rfl⟩
instance : SzOf Tryd.prog 64 1 := ⟨fun _ => by kernel_rfl⟩
instance : TyOf Tryd.prog 66 ((Tryd.prog.underlying 66).getD .bool) := ⟨by kernel_rfl⟩
instance : ZeroOf Tryd.prog 66 (.nilFunc) := ⟨Tryd.zeroValue66⟩
instance : OneC Tryd.prog 66 := ⟨fun _ => by kernel_rfl, fun _ => by kernel_rfl⟩
instance : SzOf Tryd.prog 66 1 := ⟨fun _ => by kernel_rfl⟩
instance : TyOf Tryd.prog 68 ((Tryd.prog.underlying 68).getD .bool) := ⟨by kernel_rfl⟩
instance : ZeroOf Tryd.prog 68 (.nilFunc) := ⟨Tryd.zeroValue68⟩
instance : OneC Tryd.prog 68 := ⟨fun _ => by kernel_rfl, fun _ => by kernel_rfl⟩
instance : SzOf Tryd.prog 68 1 := ⟨fun _ => by kernel_rfl⟩
instance : TyOf Tryd.prog 69 (.pointer 71) := ⟨Tryd.underlying69⟩
instance : ZeroOf Tryd.prog 69 (.pointer none) := ⟨Tryd.zeroValue69⟩
instance : SzOf Tryd.prog 69 1 := ⟨fun _ => by kernel_rfl⟩
instance : InfoOf Tryd.prog 69 8 := ⟨Tryd.t69, Tryd.typeInfo69, by kernel_rfl⟩
instance : OneC Tryd.prog 69 := ⟨fun _ => by kernel_rfl, fun _ => by kernel_rfl⟩
instance : TyOf Tryd.prog 70 ((Tryd.prog.underlying 70).getD .bool) := ⟨by kernel_rfl⟩
instance : ZeroOf Tryd.prog 70 (.agg #[.slice none 0 0, .int .i64 0, .bool false]) := ⟨Tryd.zeroValue70⟩
instance : SzOf Tryd.prog 70 3 := ⟨fun _ => by kernel_rfl⟩
instance : InfoOf Tryd.prog 70 40 := ⟨Tryd.t70, Tryd.typeInfo70, by kernel_rfl⟩
instance : AggC Tryd.prog 70 3 := ⟨fun _ => by kernel_rfl, fun _ => by kernel_rfl⟩
instance : StructPl Tryd.prog 70 #[(0, 1), (1, 1), (2, 1)] := ⟨_, Tryd.underlying70, fun _ => by kernel_rfl⟩
instance : FldC Tryd.prog 70 0 0 := ⟨_, Tryd.underlying70, _, rfl, rfl, 1, fun _ => by kernel_rfl, by decide⟩
instance : FldC Tryd.prog 70 1 1 := ⟨_, Tryd.underlying70, _, rfl, rfl, 1, fun _ => by kernel_rfl, by decide⟩
instance : FldC Tryd.prog 70 2 2 := ⟨_, Tryd.underlying70, _, rfl, rfl, 1, fun _ => by kernel_rfl, by decide⟩
instance : TyOf Tryd.prog 71 ((Tryd.prog.underlying 71).getD .bool) := ⟨by kernel_rfl⟩
instance : ZeroOf Tryd.prog 71 (.agg #[.slice none 0 0, .int .i64 0, .bool false]) := ⟨Tryd.zeroValue71⟩
instance : SzOf Tryd.prog 71 3 := ⟨fun _ => by kernel_rfl⟩
instance : InfoOf Tryd.prog 71 40 := ⟨Tryd.t71, Tryd.typeInfo71, by kernel_rfl⟩
instance : AggC Tryd.prog 71 3 := ⟨fun _ => by kernel_rfl, fun _ => by kernel_rfl⟩
instance : StructPl Tryd.prog 71 #[(0, 1), (1, 1), (2, 1)] := ⟨_, Tryd.underlying71, fun _ => by kernel_rfl⟩
instance : FldC Tryd.prog 71 0 0 := ⟨_, Tryd.underlying71, _, rfl, rfl, 1, fun _ => by kernel_rfl, by decide⟩
instance : FldC Tryd.prog 71 1 1 := ⟨_, Tryd.underlying71, _, rfl, rfl, 1, fun _ => by kernel_rfl, by decide⟩
instance : FldC Tryd.prog 71 2 2 := ⟨_, Tryd.underlying71, _, rfl, rfl, 1, fun _ => by kernel_rfl, by decide⟩
instance : TyOf Tryd.prog 72 ((Tryd.prog.underlying 72).getD .bool) := ⟨by kernel_rfl⟩
instance : ZeroOf Tryd.prog 72 (.nilFunc) := ⟨Tryd.zeroValue72⟩
instance : OneC Tryd.prog 72 := ⟨fun _ => by kernel_rfl, fun _ => by kernel_rfl⟩
instance : SzOf Tryd.prog 72 1 := ⟨fun _ => by kernel_rfl⟩
instance : TyOf Tryd.prog 73 ((Tryd.prog.underlying 73).getD .bool) := ⟨by kernel_rfl⟩
instance : ZeroOf Tryd.prog 73 (.nilFunc) := ⟨Tryd.zeroValue73⟩
instance : OneC Tryd.prog 73 := ⟨fun _ => by kernel_rfl, fun _ => by kernel_rfl⟩
instance : SzOf Tryd.prog 73 1 := ⟨fun _ => by kernel_rfl⟩
instance : TyOf Tryd.prog 74 (.array 4 24) := ⟨Tryd.underlying74⟩
instance : ZeroOf Tryd.prog 74 (.agg #[.int .u64 0, .int .u64 0, .int .u64 0, .int .u64 0]) := ⟨Tryd.zeroValue74⟩
instance : SzOf Tryd.prog 74 4 := ⟨fun _ => by kernel_rfl⟩
instance : InfoOf Tryd.prog 74 32 := ⟨Tryd.t74, Tryd.typeInfo74, by kernel_rfl⟩
instance : AggC Tryd.prog 74 4 := ⟨fun _ => by kernel_rfl, fun _ => by kernel_rfl⟩
instance : TyOf Tryd.prog 75 ((Tryd.prog.underlying 75).getD .bool) := ⟨by kernel_rfl⟩
instance : ZeroOf Tryd.prog 75 (.nilFunc) := ⟨Tryd.zeroValue75⟩
instance : OneC Tryd.prog 75 := ⟨fun _ => by kernel_rfl, fun _ => by kernel_rfl⟩
instance : SzOf Tryd.prog 75 1 := ⟨fun _ => by kernel_rfl⟩
instance : TyOf Tryd.prog 76 ((Tryd.prog.underlying 76).getD .bool) := ⟨by kernel_rfl⟩
instance : ZeroOf Tryd.prog 76 (.nilFunc) := ⟨Tryd.zeroValue76⟩
instance : OneC Tryd.prog 76 := ⟨fun _ => by kernel_rfl, fun _ => by kernel_rfl⟩
instance : SzOf Tryd.prog 76 1 := ⟨fun _ => by kernel_rfl⟩
instance : TyOf Tryd.prog 77 (.array 8 5) := ⟨Tryd.underlying77⟩
instance : ZeroOf Tryd.prog 77 (.agg #[.int .u8 0, .int .u8 0, .int .u8 0, .int .u8 0, .int .u8 0, .int .u8 0, .int .u8 0, .int .u8 0]) := ⟨Tryd.zeroValue77⟩
instance : SzOf Tryd.prog 77 8 := ⟨fun _ => by kernel_rfl⟩
instance : InfoOf Tryd.prog 77 8 := ⟨Tryd.t77, Tryd.typeInfo77, by kernel_rfl⟩
instance : AggC Tryd.prog 77 8 := ⟨fun _ => by kernel_rfl, fun _ => by kernel_rfl⟩
instance : TyOf Tryd.prog 78 ((Tryd.prog.underlying 78).getD .bool) := ⟨by kernel_rfl⟩
instance : ZeroOf Tryd.prog 78 (.nilFunc) := ⟨Tryd.zeroValue78⟩
instance : OneC Tryd.prog 78 := ⟨fun _ => by kernel_rfl, fun _ => by kernel_rfl⟩
instance : SzOf Tryd.prog 78 1 := ⟨fun _ => by kernel_rfl⟩
instance : TyOf Tryd.prog 79 ((Tryd.prog.underlying 79).getD .bool) := ⟨by kernel_rfl⟩
instance : ZeroOf Tryd.prog 79 (.agg #[.int .u8 0, .int .u8 0, .int .u8 0, .int .u8 0, .int .u8 0, .int .u8 0, .int .u8 0, .int .u8 0, .int .u8 0, .int .u8 0, .int .u8 0, .int .u8 0, .int .u8 0, .int .u8 0, .int .u8 0, .int .u8 0, .int .u8 0]) := ⟨Tryd.zeroValue79⟩
instance : SzOf Tryd.prog 79 17 := ⟨fun _ => by kernel_rfl⟩
instance : InfoOf Tryd.prog 79 17 := ⟨Tryd.t79, Tryd.typeInfo79, by kernel_rfl⟩
instance : AggC Tryd.prog 79 17 := ⟨fun _ => by kernel_rfl, fun _ => by kernel_rfl⟩
instance : StructPl Tryd.prog 79 #[(0, 16), (16, 1)] := ⟨_, Tryd.underlying79, fun _ => by kernel_rfl⟩
instance : FldC Tryd.prog 79 0 0 := ⟨_, Tryd.underlying79, _, rfl, rfl, 16, fun _ => by kernel_rfl, by decide⟩
instance : FldC Tryd.prog 79 1 16 := ⟨_, Tryd.underlying79, _, rfl, rfl, 1, fun _ => by kernel_rfl, by decide⟩
instance : TyOf Tryd.prog 80 ((Tryd.prog.underlying 80).getD .bool) := ⟨by kernel_rfl⟩
instance : ZeroOf Tryd.prog 80 (.agg #[.int .u8 0, .int .u8 0, .int .u8 0, .int .u8 0, .int .u8 0, .int .u8 0, .int .u8 0, .int .u8 0, .int .u8 0, .int .u8 0, .int .u8 0, .int .u8 0, .int .u8 0, .int .u8 0, .int .u8 0, .int .u8 0, .int .u8 0]) := ⟨Tryd.zeroValue80⟩
instance : SzOf Tryd.prog 80 17 := ⟨fun _ => by kernel_rfl⟩
instance : InfoOf Tryd.prog 80 17 := ⟨Tryd.t80, Tryd.typeInfo80, by kernel_rfl⟩
instance : AggC Tryd.prog 80 17 := ⟨fun _ => by kernel_rfl, fun _ => by kernel_rfl⟩
instance : StructPl Tryd.prog 80 #[(0, 16), (16, 1)] := ⟨_, Tryd.underlying80, fun _ => by kernel_rfl⟩
instance : FldC Tryd.prog 80 0 0 := ⟨_, Tryd.underlying80, _, rfl, rfl, 16, fun _ => by kernel_rfl, by decide⟩
instance : FldC Tryd.prog 80 1 16 := ⟨_, Tryd.underlying80, _, rfl, rfl, 1, fun _ => by kernel_rfl, by decide⟩
instance : TyOf Tryd.prog 81 ((Tryd.prog.underlying 81).getD .bool) := ⟨by kernel_rfl⟩
instance : ZeroOf Tryd.prog 81 (.nilFunc) := ⟨Tryd.zeroValue81⟩
instance : OneC Tryd.prog 81 := ⟨fun _ => by kernel_rfl, fun _ => by kernel_rfl⟩
instance : SzOf Tryd.prog 81 1 := ⟨fun _ => by kernel_rfl⟩
instance : TyOf Tryd.prog 82 ((Tryd.prog.underlying 82).getD .bool) := ⟨by kernel_rfl⟩
instance : ZeroOf Tryd.prog 82 (.nilFunc) := ⟨Tryd.zeroValue82⟩
instance : OneC Tryd.prog 82 := ⟨fun _ => by kernel_rfl, fun _ => by kernel_rfl⟩
instance : SzOf Tryd.prog 82 1 := ⟨fun _ => by kernel_rfl⟩
instance : TyOf Tryd.prog 83 ((Tryd.prog.underlying 83).getD .bool) := ⟨by kernel_rfl⟩
instance : ZeroOf Tryd.prog 83 (.nilFunc) := ⟨Tryd.zeroValue83⟩
instance : OneC Tryd.prog 83 := ⟨fun _ => by kernel_rfl, fun _ => by kernel_rfl⟩
instance : SzOf Tryd.prog 83 1 := ⟨fun _ => by kernel_rfl⟩
instance : TyOf Tryd.prog 84 (.pointer 89) := ⟨Tryd.underlying84⟩
instance : ZeroOf Tryd.prog 84 (.pointer none) := ⟨Tryd.zeroValue84⟩
instance : SzOf Tryd.prog 84 1 := ⟨fun _ => by kernel_rfl⟩
instance : InfoOf Tryd.prog 84 8 := ⟨Tryd.t84, Tryd.typeInfo84, by kernel_rfl⟩
instance : OneC Tryd.prog 84 := ⟨fun _ => by kernel_rfl, fun _ => by kernel_rfl⟩
instance : TyOf Tryd.prog 85 ((Tryd.prog.underlying 85).getD .bool) := ⟨by kernel_rfl⟩
instance : ZeroOf Tryd.prog 85 (.nilFunc) := ⟨Tryd.zeroValue85⟩
instance : OneC Tryd.prog 85 := ⟨fun _ => by kernel_rfl, fun _ => by kernel_rfl⟩
instance : SzOf Tryd.prog 85 1 := ⟨fun _ => by kernel_rfl⟩
instance : TyOf Tryd.prog 86 (.pointer 84) := ⟨Tryd.underlying86⟩
instance : ZeroOf Tryd.prog 86 (.pointer none) := ⟨Tryd.zeroValue86⟩
instance : SzOf Tryd.prog 86 1 := ⟨fun _ => by kernel_rfl⟩
instance : InfoOf Tryd.prog 86 8 := ⟨Tryd.t86, Tryd.typeInfo86, by kernel_rfl⟩
instance : OneC Tryd.prog 86 := ⟨fun _ => by kernel_rfl, fun _ => by kernel_rfl⟩
instance : TyOf Tryd.prog 87 ((Tryd.prog.underlying 87).getD .bool) := ⟨by kernel_rfl⟩
instance : ZeroOf Tryd.prog 87 (.nilFunc) := ⟨Tryd.zeroValue87⟩
instance : OneC Tryd.prog 87 := ⟨fun _ => by kernel_rfl, fun _ => by kernel_rfl⟩
instance : SzOf Tryd.prog 87 1 := ⟨fun _ => by kernel_rfl⟩
instance : TyOf Tryd.prog 88 ((Tryd.prog.underlying 88).getD .bool) := ⟨by kernel_rfl⟩
instance : ZeroOf Tryd.prog 88 (.agg #[.int .i64 0, .int .i64 0]) := ⟨Tryd.zeroValue88⟩
instance : SzOf Tryd.prog 88 2 := ⟨fun _ => by kernel_rfl⟩
instance : InfoOf Tryd.prog 88 16 := ⟨Tryd.t88, Tryd.typeInfo88, by kernel_rfl⟩
instance : AggC Tryd.prog 88 2 := ⟨fun _ => by kernel_rfl, fun _ => by kernel_rfl⟩
instance : StructPl Tryd.prog 88 #[(0, 1), (1, 1)] := ⟨_, Tryd.underlying88, fun _ => by kernel_rfl⟩
instance : FldC Tryd.prog 88 0 0 := ⟨_, Tryd.underlying88, _, rfl, rfl, 1, fun _ => by kernel_rfl, by decide⟩
instance : FldC Tryd.prog 88 1 1 := ⟨_, Tryd.underlying88, _, rfl, rfl, 1, fun _ => by kernel_rfl, by decide⟩
instance : TyOf Tryd.prog 89 ((Tryd.prog.underlying 89).getD .bool) := ⟨by kernel_rfl⟩
instance : ZeroOf Tryd.prog 89 (.agg #[.int .i64 0, .int .i64 0]) := ⟨Tryd.zeroValue89⟩
instance : SzOf Tryd.prog 89 2 := ⟨fun _ => by kernel_rfl⟩
instance : InfoOf Tryd.prog 89 16 := ⟨Tryd.t89, Tryd.typeInfo89, by kernel_rfl⟩
instance : AggC Tryd.prog 89 2 := ⟨fun _ => by kernel_rfl, fun _ => by kernel_rfl⟩
instance : StructPl Tryd.prog 89 #[(0, 1), (1, 1)] := ⟨_, Tryd.underlying89, fun _ => by kernel_rfl⟩
instance : FldC Tryd.prog 89 0 0 := ⟨_, Tryd.underlying89, _, rfl, rfl, 1, fun _ => by kernel_rfl, by decide⟩
instance : FldC Tryd.prog 89 1 1 := ⟨_, Tryd.underlying89, _, rfl, rfl, 1, fun _ => by kernel_rfl, by decide⟩
instance : TyOf Tryd.prog 90 (.pointer 31) := ⟨Tryd.underlying90⟩
instance : ZeroOf Tryd.prog 90 (.pointer none) := ⟨Tryd.zeroValue90⟩
instance : SzOf Tryd.prog 90 1 := ⟨fun _ => by kernel_rfl⟩
instance : InfoOf Tryd.prog 90 8 := ⟨Tryd.t90, Tryd.typeInfo90, by kernel_rfl⟩
instance : OneC Tryd.prog 90 := ⟨fun _ => by kernel_rfl, fun _ => by kernel_rfl⟩
instance : TyOf Tryd.prog 91 ((Tryd.prog.underlying 91).getD .bool) := ⟨by kernel_rfl⟩
instance : ZeroOf Tryd.prog 91 (.nilFunc) := ⟨Tryd.zeroValue91⟩
instance : OneC Tryd.prog 91 := ⟨fun _ => by kernel_rfl, fun _ => by kernel_rfl⟩
instance : SzOf Tryd.prog 91 1 := ⟨fun _ => by kernel_rfl⟩
instance : TyOf Tryd.prog 92 ((Tryd.prog.underlying 92).getD .bool) := ⟨by kernel_rfl⟩
instance : ZeroOf Tryd.prog 92 (.nilFunc) := ⟨Tryd.zeroValue92⟩
instance : OneC Tryd.prog 92 := ⟨fun _ => by kernel_rfl, fun _ => by kernel_rfl⟩
instance : SzOf Tryd.prog 92 1 := ⟨fun _ => by kernel_rfl⟩
instance : TyOf Tryd.prog 93 ((Tryd.prog.underlying 93).getD .bool) := ⟨by kernel_rfl⟩
instance : ZeroOf Tryd.prog 93 (.nilFunc) := ⟨Tryd.zeroValue93⟩
instance : OneC Tryd.prog 93 := ⟨fun _ => by kernel_rfl, fun _ => by kernel_rfl⟩
instance : SzOf Tryd.prog 93 1 := ⟨fun _ => by kernel_rfl⟩
instance : TyOf Tryd.prog 94 ((Tryd.prog.underlying 94).getD .bool) := ⟨by kernel_rfl⟩
instance : ZeroOf Tryd.prog 94 (.nilFunc) := ⟨Tryd.zeroValue94⟩
instance : OneC Tryd.prog 94 := ⟨fun _ => by kernel_rfl, fun _ => by kernel_rfl⟩
instance : SzOf Tryd.prog 94 1 := ⟨fun _ => by kernel_rfl⟩
instance : TyOf Tryd.prog 95 (.pointer 74) := ⟨Tryd.underlying95⟩
instance : ZeroOf Tryd.prog 95 (.pointer none) := ⟨Tryd.zeroValue95⟩
instance : SzOf Tryd.prog 95 1 := ⟨fun _ => by kernel_rfl⟩
instance : InfoOf Tryd.prog 95 8 := ⟨Tryd.t95, Tryd.typeInfo95, by kernel_rfl⟩
instance : OneC Tryd.prog 95 := ⟨fun _ => by kernel_rfl, fun _ => by kernel_rfl⟩
instance : TyOf Tryd.prog 96 ((Tryd.prog.underlying 96).getD .bool) := ⟨by kernel_rfl⟩
instance : ZeroOf Tryd.prog 96 (.nilFunc) := ⟨Tryd.zeroValue96⟩
instance : OneC Tryd.prog 96 := ⟨fun _ => by kernel_rfl, fun _ => by kernel_rfl⟩
instance : SzOf Tryd.prog 96 1 := ⟨fun _ => by kernel_rfl⟩
instance : TyOf Tryd.prog 97 (.pointer 99) := ⟨Tryd.underlying97⟩
instance : ZeroOf Tryd.prog 97 (.pointer none) := ⟨Tryd.zeroValue97⟩
instance : SzOf Tryd.prog 97 1 := ⟨fun _ => by kernel_rfl⟩
instance : InfoOf Tryd.prog 97 8 := ⟨Tryd.t97, Tryd.typeInfo97, by kernel_rfl⟩
instance : OneC Tryd.prog 97 := ⟨fun _ => by kernel_rfl, fun _ => by kernel_rfl⟩
instance : TyOf Tryd.prog 98 ((Tryd.prog.underlying 98).getD .bool) := ⟨by kernel_rfl⟩
instance : ZeroOf Tryd.prog 98 (.agg #[.slice none 0 0, .int .i64 0]) := ⟨Tryd.zeroValue98⟩
instance : SzOf Tryd.prog 98 2 := ⟨fun _ => by kernel_rfl⟩
instance : InfoOf Tryd.prog 98 32 := ⟨Tryd.t98, Tryd.typeInfo98, by kernel_rfl⟩
instance : AggC Tryd.prog 98 2 := ⟨fun _ => by kernel_rfl, fun _ => by kernel_rfl⟩
instance : StructPl Tryd.prog 98 #[(0, 1), (1, 1)] := ⟨_, Tryd.underlying98, fun _ => by kernel_rfl⟩
instance : FldC Tryd.prog 98 0 0 := ⟨_, Tryd.underlying98, _, rfl, rfl, 1, fun _ => by kernel_rfl, by decide⟩
instance : FldC Tryd.prog 98 1 1 := ⟨_, Tryd.underlying98, _, rfl, rfl, 1, fun _ => by kernel_rfl, by decide⟩
instance : TyOf Tryd.prog 99 ((Tryd.prog.underlying 99).getD .bool) := ⟨by kernel_rfl⟩
instance : ZeroOf Tryd.prog 99 (.agg #[.slice none 0 0, .int .i64 0]) := ⟨Tryd.zeroValue99⟩
instance : SzOf Tryd.prog 99 2 := ⟨fun _ => by kernel_rfl⟩
instance : InfoOf Tryd.prog 99 32 := ⟨Tryd.t99, Tryd.typeInfo99, by kernel_rfl⟩
instance : AggC Tryd.prog 99 2 := ⟨fun _ => by kernel_rfl, fun _ => by kernel_rfl⟩
instance : StructPl Tryd.prog 99 #[(0, 1), (1, 1)] := ⟨_, Tryd.underlying99, fun _ => by kernel_rfl⟩
instance : FldC Tryd.prog 99 0 0 := ⟨_, Tryd.underlying99, _, rfl, rfl, 1, fun _ => by kernel_rfl, by decide⟩
instance : FldC Tryd.prog 99 1 1 := ⟨_, Tryd.underlying99, _, rfl, rfl, 1, fun _ => by kernel_rfl, by decide⟩
instance : TyOf Tryd.prog 100 ((Tryd.prog.underlying 100).getD .bool) := ⟨by kernel_rfl⟩
instance : ZeroOf Tryd.prog 100 (.agg #[]) := ⟨Tryd.zeroValue100⟩
instance : SzOf Tryd.prog 100 0 := ⟨fun _ => by kernel_rfl⟩
instance : InfoOf Tryd.prog 100 0 := ⟨Tryd.t100, Tryd.typeInfo100, by kernel_rfl⟩
instance : AggC Tryd.prog 100 0 := ⟨fun _ => by kernel_rfl, fun _ => by kernel_rfl⟩
instance : StructPl Tryd.prog 100 #[] := ⟨_, Tryd.underlying100, fun _ => by kernel_rfl⟩
instance : TyOf Tryd.prog 101 ((Tryd.prog.underlying 101).getD .bool) := ⟨by kernel_rfl⟩
instance : ZeroOf Tryd.prog 101 (.agg #[]) := ⟨Tryd.zeroValue101⟩
instance : SzOf Tryd.prog 101 0 := ⟨fun _ => by kernel_rfl⟩
instance : InfoOf Tryd.prog 101 0 := ⟨Tryd.t101, Tryd.typeInfo101, by kernel_rfl⟩
instance : AggC Tryd.prog 101 0 := ⟨fun _ => by kernel_rfl, fun _ => by kernel_rfl⟩
instance : StructPl Tryd.prog 101 #[] := ⟨_, Tryd.underlying101, fun _ => by kernel_rfl⟩
instance : TyOf Tryd.prog 103 ((Tryd.prog.underlying 103).getD .bool) := ⟨by kernel_rfl⟩
instance : ZeroOf Tryd.prog 103 (.nilFunc) := ⟨Tryd.zeroValue103⟩
instance : OneC Tryd.prog 103 := ⟨fun _ => by kernel_rfl, fun _ => by kernel_rfl⟩
instance : SzOf Tryd.prog 103 1 := ⟨fun _ => by kernel_rfl⟩
instance : TyOf Tryd.prog 105 ((Tryd.prog.underlying 105).getD .bool) := ⟨by kernel_rfl⟩
instance : ZeroOf Tryd.prog 105 (.nilFunc) := ⟨Tryd.zeroValue105⟩
instance : OneC Tryd.prog 105 := ⟨fun _ => by kernel_rfl, fun _ => by kernel_rfl⟩
instance : SzOf Tryd.prog 105 1 := ⟨fun _ => by kernel_rfl⟩
instance : TyOf Tryd.prog 106 (.pointer 112) := ⟨Tryd.underlying106⟩
instance : ZeroOf Tryd.prog 106 (.pointer none) := ⟨Tryd.zeroValue106⟩
instance : SzOf Tryd.prog 106 1 := ⟨fun _ => by kernel_rfl⟩
instance : InfoOf Tryd.prog 106 8 := ⟨Tryd.t106, Tryd.typeInfo106, by kernel_rfl⟩
instance : OneC Tryd.prog 106 := ⟨fun _ => by kernel_rfl, fun _ => by kernel_rfl⟩
instance : TyOf Tryd.prog 107 ((Tryd.prog.underlying 107).getD .bool) := ⟨by kernel_rfl⟩
instance : ZeroOf Tryd.prog 107 (.nilFunc) := ⟨Tryd.zeroValue107⟩
instance : OneC Tryd.prog 107 := ⟨fun _ => by kernel_rfl, fun _ => by kernel_rfl⟩
instance : SzOf Tryd.prog 107 1 := ⟨fun _ => by kernel_rfl⟩
instance : TyOf Tryd.prog 108 ((Tryd.prog.underlying 108).getD .bool) := ⟨by kernel_rfl⟩
instance : ZeroOf Tryd.prog 108 (.nilFunc) := ⟨Tryd.zeroValue108⟩
instance : OneC Tryd.prog 108 := ⟨fun _ => by kernel_rfl, fun _ => by kernel_rfl⟩
instance : SzOf Tryd.prog 108 1 := ⟨fun _ => by kernel_rfl⟩
instance : TyOf Tryd.prog 109 ((Tryd.prog.underlying 109).getD .bool) := ⟨by kernel_rfl⟩
instance : ZeroOf Tryd.prog 109 (.nilFunc) := ⟨Tryd.zeroValue109⟩
instance : OneC Tryd.prog 109 := ⟨fun _ => by kernel_rfl, fun _ => by kernel_rfl⟩
instance : SzOf Tryd.prog 109 1 := ⟨fun _ => by kernel_rfl⟩
instance : TyOf Tryd.prog 110 ((Tryd.prog.underlying 110).getD .bool) := ⟨by kernel_rfl⟩
instance : ZeroOf Tryd.prog 110 (.nilFunc) := ⟨Tryd.zeroValue110⟩
instance : OneC Tryd.prog 110 := ⟨fun _ => by kernel_rfl, fun _ => by kernel_rfl⟩
instance : SzOf Tryd.prog 110 1 := ⟨fun _ => by kernel_rfl⟩
instance : TyOf Tryd.prog 111 ((Tryd.prog.underlying 111).getD .bool) := ⟨by kernel_rfl⟩
instance : ZeroOf Tryd.prog 111 (.agg #[.nilFunc, .nilFunc, .nilFunc]) := ⟨Tryd.zeroValue111⟩
instance : SzOf Tryd.prog 111 3 := ⟨fun _ => by kernel_rfl⟩
instance : InfoOf Tryd.prog 111 24 := ⟨Tryd.t111, Tryd.typeInfo111, by kernel_rfl⟩
instance : AggC Tryd.prog 111 3 := ⟨fun _ => by kernel_rfl, fun _ => by kernel_rfl⟩
instance : StructPl Tryd.prog 111 #[(0, 1), (1, 1), (2, 1)] := ⟨_, Tryd.underlying111, fun _ => by kernel_rfl⟩
instance : FldC Tryd.prog 111 0 0 := ⟨_, Tryd.underlying111, _, rfl, rfl, 1, fun _ => by kernel_rfl, by decide⟩
instance : FldC Tryd.prog 111 1 1 := ⟨_, Tryd.underlying111, _, rfl, rfl, 1, fun _ => by kernel_rfl, by decide⟩
instance : FldC Tryd.prog 111 2 2 := ⟨_, Tryd.underlying111, _, rfl, rfl, 1, fun _ => by kernel_rfl, by decide⟩
instance : TyOf Tryd.prog 112 ((Tryd.prog.underlying 112).getD .bool) := ⟨by kernel_rfl⟩
instance : ZeroOf Tryd.prog 112 (.agg #[.nilFunc, .nilFunc, .nilFunc]) := ⟨Tryd.zeroValue112⟩
instance : SzOf Tryd.prog 112 3 := ⟨fun _ => by kernel_rfl⟩
instance : InfoOf Tryd.prog 112 24 := ⟨Tryd.t112, Tryd.typeInfo112, by kernel_rfl⟩
instance : AggC Tryd.prog 112 3 := ⟨fun _ => by kernel_rfl, fun _ => by kernel_rfl⟩
instance : StructPl Tryd.prog 112 #[(0, 1), (1, 1), (2, 1)] := ⟨_, Tryd.underlying112, fun _ => by kernel_rfl⟩
instance : FldC Tryd.prog 112 0 0 := ⟨_, Tryd.underlying112, _, rfl, rfl, 1, fun _ => by kernel_rfl, by decide⟩
instance : FldC Tryd.prog 112 1 1 := ⟨_, Tryd.underlying112, _, rfl, rfl, 1, fun _ => by kernel_rfl, by decide⟩
instance : FldC Tryd.prog 112 2 2 := ⟨_, Tryd.underlying112, _, rfl, rfl, 1, fun _ => by kernel_rfl, by decide⟩
instance : TyOf Tryd.prog 113 (.pointer 46) := ⟨Tryd.underlying113⟩
instance : ZeroOf Tryd.prog 113 (.pointer none) := ⟨Tryd.zeroValue113⟩
instance : SzOf Tryd.prog 113 1 := ⟨fun _ => by kernel_rfl⟩
instance : InfoOf Tryd.prog 113 8 := ⟨Tryd.t113, Tryd.typeInfo113, by kernel_rfl⟩
instance : OneC Tryd.prog 113 := ⟨fun _ => by kernel_rfl, fun _ => by kernel_rfl⟩
instance : TyOf Tryd.prog 114 ((Tryd.prog.underlying 114).getD .bool) := ⟨by kernel_rfl⟩
instance : ZeroOf Tryd.prog 114 (.nilFunc) := ⟨Tryd.zeroValue114⟩
instance : OneC Tryd.prog 114 := ⟨fun _ => by kernel_rfl, fun _ => by kernel_rfl⟩
instance : SzOf Tryd.prog 114 1 := ⟨fun _ => by kernel_rfl⟩
instance : TyOf Tryd.prog 115 (.unsafePointer) := ⟨Tryd.underlying115⟩
instance : ZeroOf Tryd.prog 115 (.pointer none) := ⟨Tryd.zeroValue115⟩
instance : SzOf Tryd.prog 115 1 := ⟨fun _ => by kernel_rfl⟩
instance : InfoOf Tryd.prog 115 8 := ⟨Tryd.t115, Tryd.typeInfo115, by kernel_rfl⟩
instance : OneC Tryd.prog 115 := ⟨fun _ => by kernel_rfl, fun _ => by kernel_rfl⟩
instance : TyOf Tryd.prog 116 (.int .u64) := ⟨Tryd.underlying116⟩
instance : ZeroOf Tryd.prog 116 (.int .u64 0) := ⟨Tryd.zeroValue116⟩
instance : SzOf Tryd.prog 116 1 := ⟨fun _ => by kernel_rfl⟩
instance : InfoOf Tryd.prog 116 8 := ⟨Tryd.t116, Tryd.typeInfo116, by kernel_rfl⟩
instance : OneC Tryd.prog 116 := ⟨fun _ => by kernel_rfl, fun _ => by kernel_rfl⟩
instance : TyOf Tryd.prog 117 ((Tryd.prog.underlying 117).getD .bool) := ⟨by kernel_rfl⟩
instance : ZeroOf Tryd.prog 117 (.agg #[.pointer none, .pointer none, .int .u64 0]) := ⟨Tryd.zeroValue117⟩
instance : SzOf Tryd.prog 117 3 := ⟨fun _ => by kernel_rfl⟩
instance : InfoOf Tryd.prog 117 24 := ⟨Tryd.t117, Tryd.typeInfo117, by kernel_rfl⟩
instance : AggC Tryd.prog 117 3 := ⟨fun _ => by kernel_rfl, fun _ => by kernel_rfl⟩
instance : StructPl Tryd.prog 117 #[(0, 1), (1, 1), (2, 1)] := ⟨_, Tryd.underlying117, fun _ => by kernel_rfl⟩
instance : FldC Tryd.prog 117 0 0 := ⟨_, Tryd.underlying117, _, rfl, rfl, 1, fun _ => by kernel_rfl, by decide⟩
instance : FldC Tryd.prog 117 1 1 := ⟨_, Tryd.underlying117, _, rfl, rfl, 1, fun _ => by kernel_rfl, by decide⟩
instance : FldC Tryd.prog 117 2 2 := ⟨_, Tryd.underlying117, _, rfl, rfl, 1, fun _ => by kernel_rfl, by decide⟩
instance : TyOf Tryd.prog 118 ((Tryd.prog.underlying 118).getD .bool) := ⟨by kernel_rfl⟩
instance : ZeroOf Tryd.prog 118 (.agg #[.pointer none, .pointer none, .int .u64 0]) := ⟨Tryd.zeroValue118⟩
instance : SzOf Tryd.prog 118 3 := ⟨fun _ => by kernel_rfl⟩
instance : InfoOf Tryd.prog 118 24 := ⟨Tryd.t118, Tryd.typeInfo118, by kernel_rfl⟩
instance : AggC Tryd.prog 118 3 := ⟨fun _ => by kernel_rfl, fun _ => by kernel_rfl⟩
instance : StructPl Tryd.prog 118 #[(0, 1), (1, 1), (2, 1)] := ⟨_, Tryd.underlying118, fun _ => by kernel_rfl⟩
instance : FldC Tryd.prog 118 0 0 := ⟨_, Tryd.underlying118, _, rfl, rfl, 1, fun _ => by kernel_rfl, by decide⟩
instance : FldC Tryd.prog 118 1 1 := ⟨_, Tryd.underlying118, _, rfl, rfl, 1, fun _ => by kernel_rfl, by decide⟩
instance : FldC Tryd.prog 118 2 2 := ⟨_, Tryd.underlying118, _, rfl, rfl, 1, fun _ => by kernel_rfl, by decide⟩
instance : TyOf Tryd.prog 119 ((Tryd.prog.underlying 119).getD .bool) := ⟨by kernel_rfl⟩
instance : ZeroOf Tryd.prog 119 (.nilFunc) := ⟨Tryd.zeroValue119⟩
instance : OneC Tryd.prog 119 := ⟨fun _ => by kernel_rfl, fun _ => by kernel_rfl⟩
instance : SzOf Tryd.prog 119 1 := ⟨fun _ => by kernel_rfl⟩
instance : TyOf Tryd.prog 120 (.interface #[("AssignableTo", 126), ("Comparable", 125), ("Elem", 122), ("Implements", 126), ("Kind", 124), ("Name", 94), ("PkgPath", 94), ("Size", 169), ("String", 94), ("internal/reflectlite.common", 160), ("internal/reflectlite.uncommon", 170)]) := ⟨Tryd.underlying120⟩
instance : ZeroOf Tryd.prog 120 (.nilIface) := ⟨Tryd.zeroValue120⟩
instance : SzOf Tryd.prog 120 1 := ⟨fun _ => by kernel_rfl⟩
instance : InfoOf Tryd.prog 120 16 := ⟨Tryd.t120, Tryd.typeInfo120, by kernel_rfl⟩
instance : OneC Tryd.prog 120 := ⟨fun _ => by kernel_rfl, fun _ => by kernel_rfl⟩
instance : TyOf Tryd.prog 121 (.interface #[("AssignableTo", 126), ("Comparable", 125), ("Elem", 122), ("Implements", 126), ("Kind", 124), ("Name", 94), ("PkgPath", 94), ("Size", 169), ("String", 94), ("internal/reflectlite.common", 160), ("internal/reflectlite.uncommon", 170)]) := ⟨Tryd.underlying121⟩
instance : ZeroOf Tryd.prog 121 (.nilIface) := ⟨Tryd.zeroValue121⟩
instance : SzOf Tryd.prog 121 1 := ⟨fun _ => by kernel_rfl⟩
instance : InfoOf Tryd.prog 121 16 := ⟨Tryd.t121, Tryd.typeInfo121, by kernel_rfl⟩
instance : OneC Tryd.prog 121 := ⟨fun _ => by kernel_rfl, fun _ => by kernel_rfl⟩
instance : TyOf Tryd.prog 122 ((Tryd.prog.underlying 122).getD .bool) := ⟨by kernel_rfl⟩
instance : ZeroOf Tryd.prog 122 (.nilFunc) := ⟨Tryd.zeroValue122⟩
instance : OneC Tryd.prog 122 := ⟨fun _ => by kernel_rfl, fun _ => by kernel_rfl⟩
instance : SzOf Tryd.prog 122 1 := ⟨fun _ => by kernel_rfl⟩
instance : TyOf Tryd.prog 123 (.int .u8) := ⟨Tryd.underlying123⟩
instance : ZeroOf Tryd.prog 123 (.int .u8 0) := ⟨Tryd.zeroValue123⟩
instance : SzOf Tryd.prog 123 1 := ⟨fun _ => by kernel_rfl⟩
instance : InfoOf Tryd.prog 123 1 := ⟨Tryd.t123, Tryd.typeInfo123, by kernel_rfl⟩
instance : OneC Tryd.prog 123 := ⟨fun _ => by kernel_rfl, fun _ => by kernel_rfl⟩
instance : TyOf Tryd.prog 124 ((Tryd.prog.underlying 124).getD .bool) := ⟨by kernel_rfl⟩
instance : ZeroOf Tryd.prog 124 (.nilFunc) := ⟨Tryd.zeroValue124⟩
instance : OneC Tryd.prog 124 := ⟨fun _ => by kernel_rfl, fun _ => by kernel_rfl⟩
instance : SzOf Tryd.prog 124 1 := ⟨fun _ => by kernel_rfl⟩
instance : TyOf Tryd.prog 125 ((Tryd.prog.underlying 125).getD .bool) := ⟨by kernel_rfl⟩
instance : ZeroOf Tryd.prog 125 (.nilFunc) := ⟨Tryd.zeroValue125⟩
instance : OneC Tryd.prog 125 := ⟨fun _ => by kernel_rfl, fun _ => by kernel_rfl⟩
instance : SzOf Tryd.prog 125 1 := ⟨fun _ => by kernel_rfl⟩
instance : TyOf Tryd.prog 126 ((Tryd.prog.underlying 126).getD .bool) := ⟨by kernel_rfl⟩
instance : ZeroOf Tryd.prog 126 (.nilFunc) := ⟨Tryd.zeroValue126⟩
instance : OneC Tryd.prog 126 := ⟨fun _ => by kernel_rfl, fun _ => by kernel_rfl⟩
instance : SzOf Tryd.prog 126 1 := ⟨fun _ => by kernel_rfl⟩
instance : TyOf Tryd.prog 127 ((Tryd.prog.underlying 127).getD .bool) := ⟨by kernel_rfl⟩
instance : ZeroOf Tryd.prog 127 (.nilFunc) := ⟨Tryd.zeroValue127⟩
instance : OneC Tryd.prog 127 := ⟨fun _ => by kernel_rfl, fun _ => by kernel_rfl⟩
instance : SzOf Tryd.prog 127 1 := ⟨fun _ => by kernel_rfl⟩
instance : TyOf Tryd.prog 128 ((Tryd.prog.underlying 128).getD .bool) := ⟨by kernel_rfl⟩
instance : ZeroOf Tryd.prog 128 (.nilFunc) := ⟨Tryd.zeroValue128⟩
instance : OneC Tryd.prog 128 := ⟨fun _ => by kernel_rfl, fun _ => by kernel_rfl⟩
instance : SzOf Tryd.prog 128 1 := ⟨fun _ => by kernel_rfl⟩
instance : TyOf Tryd.prog 129 ((Tryd.prog.underlying 129).getD .bool) := ⟨by kernel_rfl⟩
instance : ZeroOf Tryd.prog 129 (.nilFunc) := ⟨Tryd.zeroValue129⟩
instance : OneC Tryd.prog 129 := ⟨fun _ => by kernel_rfl, fun _ => by kernel_rfl⟩
instance : SzOf Tryd.prog 129 1 := ⟨fun _ => by kernel_rfl⟩
instance : TyOf Tryd.prog 130 ((Tryd.prog.underlying 130).getD .bool) := ⟨by kernel_rfl⟩
instance : ZeroOf Tryd.prog 130 (.nilFunc) := ⟨Tryd.zeroValue130⟩
instance : OneC Tryd.prog 130 := ⟨fun _ => by kernel_rfl, fun _ => by kernel_rfl⟩
instance : SzOf Tryd.prog 130 1 := ⟨fun _ => by kernel_rfl⟩
instance : TyOf Tryd.prog 131 ((Tryd.prog.underlying 131).getD .bool) := ⟨by kernel_rfl⟩
instance : ZeroOf Tryd.prog 131 (.nilFunc) := ⟨Tryd.zeroValue131⟩
instance : OneC Tryd.prog 131 := ⟨fun _ => by kernel_rfl, fun _ => by kernel_rfl⟩
instance : SzOf Tryd.prog 131 1 := ⟨fun _ => by kernel_rfl⟩
instance : TyOf Tryd.prog 132 ((Tryd.prog.underlying 132).getD .bool) := ⟨by kernel_rfl⟩
instance : ZeroOf Tryd.prog 132 (.nilFunc) := ⟨Tryd.zeroValue132⟩
instance : OneC Tryd.prog 132 := ⟨fun _ => by kernel_rfl, fun _ => by kernel_rfl⟩
instance : SzOf Tryd.prog 132 1 := ⟨fun _ => by kernel_rfl⟩
instance : TyOf Tryd.prog 133 ((Tryd.prog.underlying 133).getD .bool) := ⟨by kernel_rfl⟩
instance : ZeroOf Tryd.prog 133 (.nilFunc) := ⟨Tryd.zeroValue133⟩
instance : OneC Tryd.prog 133 := ⟨fun _ => by kernel_rfl, fun _ => by kernel_rfl⟩
instance : SzOf Tryd.prog 133 1 := ⟨fun _ => by kernel_rfl⟩
instance : TyOf Tryd.prog 134 ((Tryd.prog.underlying 134).getD .bool) := ⟨by kernel_rfl⟩
instance : ZeroOf Tryd.prog 134 (.nilFunc) := ⟨Tryd.zeroValue134⟩
instance : OneC Tryd.prog 134 := ⟨fun _ => by kernel_rfl, fun _ => by kernel_rfl⟩
instance : SzOf Tryd.prog 134 1 := ⟨fun _ => by kernel_rfl⟩
instance : TyOf Tryd.prog 135 ((Tryd.prog.underlying 135).getD .bool) := ⟨by kernel_rfl⟩
instance : ZeroOf Tryd.prog 135 (.nilFunc) := ⟨Tryd.zeroValue135⟩
instance : OneC Tryd.prog 135 := ⟨fun _ => by kernel_rfl, fun _ => by kernel_rfl⟩
instance : SzOf Tryd.prog 135 1 := ⟨fun _ => by kernel_rfl⟩
instance : TyOf Tryd.prog 136 (.slice 24) := ⟨Tryd.underlying136⟩
instance : ZeroOf Tryd.prog 136 (.slice none 0 0) := ⟨Tryd.zeroValue136⟩
instance : SzOf Tryd.prog 136 1 := ⟨fun _ => by kernel_rfl⟩
instance : InfoOf Tryd.prog 136 24 := ⟨Tryd.t136, Tryd.typeInfo136, by kernel_rfl⟩
instance : OneC Tryd.prog 136 := ⟨fun _ => by kernel_rfl, fun _ => by kernel_rfl⟩
instance : TyOf Tryd.prog 137 ((Tryd.prog.underlying 137).getD .bool) := ⟨by kernel_rfl⟩
instance : ZeroOf Tryd.prog 137 (.agg #[.pointer none]) := ⟨Tryd.zeroValue137⟩
instance : SzOf Tryd.prog 137 1 := ⟨fun _ => by kernel_rfl⟩
instance : InfoOf Tryd.prog 137 8 := ⟨Tryd.t137, Tryd.typeInfo137, by kernel_rfl⟩
instance : AggC Tryd.prog 137 1 := ⟨fun _ => by kernel_rfl, fun _ => by kernel_rfl⟩
instance : StructPl Tryd.prog 137 #[(0, 1)] := ⟨_, Tryd.underlying137, fun _ => by kernel_rfl⟩
instance : FldC Tryd.prog 137 0 0 := ⟨_, Tryd.underlying137, _, rfl, rfl, 1, fun _ => by kernel_rfl, by decide⟩
instance : TyOf Tryd.prog 138 ((Tryd.prog.underlying 138).getD .bool) := ⟨by kernel_rfl⟩
instance : ZeroOf Tryd.prog 138 (.agg #[.pointer none]) := ⟨Tryd.zeroValue138⟩
instance : SzOf Tryd.prog 138 1 := ⟨fun _ => by kernel_rfl⟩
instance : InfoOf Tryd.prog 138 8 := ⟨Tryd.t138, Tryd.typeInfo138, by kernel_rfl⟩
instance : AggC Tryd.prog 138 1 := ⟨fun _ => by kernel_rfl, fun _ => by kernel_rfl⟩
instance : StructPl Tryd.prog 138 #[(0, 1)] := ⟨_, Tryd.underlying138, fun _ => by kernel_rfl⟩
instance : FldC Tryd.prog 138 0 0 := ⟨_, Tryd.underlying138, _, rfl, rfl, 1, fun _ => by kernel_rfl, by decide⟩
instance : TyOf Tryd.prog 139 (.pointer 172) := ⟨Tryd.underlying139⟩
instance : ZeroOf Tryd.prog 139 (.pointer none) := ⟨Tryd.zeroValue139⟩
instance : SzOf Tryd.prog 139 1 := ⟨fun _ => by kernel_rfl⟩
instance : InfoOf Tryd.prog 139 8 := ⟨Tryd.t139, Tryd.typeInfo139, by kernel_rfl⟩
instance : OneC Tryd.prog 139 := ⟨fun _ => by kernel_rfl, fun _ => by kernel_rfl⟩
instance : TyOf Tryd.prog 140 ((Tryd.prog.underlying 140).getD .bool) := ⟨by kernel_rfl⟩
instance : ZeroOf Tryd.prog 140 (.nilFunc) := ⟨Tryd.zeroValue140⟩
instance : OneC Tryd.prog 140 := ⟨fun _ => by kernel_rfl, fun _ => by kernel_rfl⟩
instance : SzOf Tryd.prog 140 1 := ⟨fun _ => by kernel_rfl⟩
instance : TyOf Tryd.prog 141 ((Tryd.prog.underlying 141).getD .bool) := ⟨by kernel_rfl⟩
instance : ZeroOf Tryd.prog 141 (.nilFunc) := ⟨Tryd.zeroValue141⟩
instance : OneC Tryd.prog 141 := ⟨fun _ => by kernel_rfl, fun _ => by kernel_rfl⟩
instance : SzOf Tryd.prog 141 1 := ⟨fun _ => by kernel_rfl⟩
instance : TyOf Tryd.prog 142 (.interface #[("As", 144)]) := ⟨Tryd.underlying142⟩
instance : ZeroOf Tryd.prog 142 (.nilIface) := ⟨Tryd.zeroValue142⟩
instance : SzOf Tryd.prog 142 1 := ⟨fun _ => by kernel_rfl⟩
instance : InfoOf Tryd.prog 142 16 := ⟨Tryd.t142, Tryd.typeInfo142, by kernel_rfl⟩
instance : OneC Tryd.prog 142 := ⟨fun _ => by kernel_rfl, fun _ => by kernel_rfl⟩
instance : TyOf Tryd.prog 144 ((Tryd.prog.underlying 144).getD .bool) := ⟨by kernel_rfl⟩
instance : ZeroOf Tryd.prog 144 (.nilFunc) := ⟨Tryd.zeroValue144⟩
instance : OneC Tryd.prog 144 := ⟨fun _ => by kernel_rfl, fun _ => by kernel_rfl⟩
instance : SzOf Tryd.prog 144 1 := ⟨fun _ => by kernel_rfl⟩
instance : TyOf Tryd.prog 145 (.interface #[("Unwrap", 146)]) := ⟨Tryd.underlying145⟩
instance : ZeroOf Tryd.prog 145 (.nilIface) := ⟨Tryd.zeroValue145⟩
instance : SzOf Tryd.prog 145 1 := ⟨fun _ => by kernel_rfl⟩
instance : InfoOf Tryd.prog 145 16 := ⟨Tryd.t145, Tryd.typeInfo145, by kernel_rfl⟩
instance : OneC Tryd.prog 145 := ⟨fun _ => by kernel_rfl, fun _ => by kernel_rfl⟩
instance : TyOf Tryd.prog 146 ((Tryd.prog.underlying 146).getD .bool) := ⟨by kernel_rfl⟩
instance : ZeroOf Tryd.prog 146 (.nilFunc) := ⟨Tryd.zeroValue146⟩
instance : OneC Tryd.prog 146 := ⟨fun _ => by kernel_rfl, fun _ => by kernel_rfl⟩
instance : SzOf Tryd.prog 146 1 := ⟨fun _ => by kernel_rfl⟩
instance : TyOf Tryd.prog 147 (.interface #[("Unwrap", 149)]) := ⟨Tryd.underlying147⟩
instance : ZeroOf Tryd.prog 147 (.nilIface) := ⟨Tryd.zeroValue147⟩
instance : SzOf Tryd.prog 147 1 := ⟨fun _ => by kernel_rfl⟩
instance : InfoOf Tryd.prog 147 16 := ⟨Tryd.t147, Tryd.typeInfo147, by kernel_rfl⟩
instance : OneC Tryd.prog 147 := ⟨fun _ => by kernel_rfl, fun _ => by kernel_rfl⟩
instance : TyOf Tryd.prog 148 (.slice 55) := ⟨Tryd.underlying148⟩
instance : ZeroOf Tryd.prog 148 (.slice none 0 0) := ⟨Tryd.zeroValue148⟩
instance : SzOf Tryd.prog 148 1 := ⟨fun _ => by kernel_rfl⟩
instance : InfoOf Tryd.prog 148 24 := ⟨Tryd.t148, Tryd.typeInfo148, by kernel_rfl⟩
instance : OneC Tryd.prog 148 := ⟨fun _ => by kernel_rfl, fun _ => by kernel_rfl⟩
instance : TyOf Tryd.prog 149 ((Tryd.prog.underlying 149).getD .bool) := ⟨by kernel_rfl⟩
instance : ZeroOf Tryd.prog 149 (.nilFunc) := ⟨Tryd.zeroValue149⟩
instance : OneC Tryd.prog 149 := ⟨fun _ => by kernel_rfl, fun _ => by kernel_rfl⟩
instance : SzOf Tryd.prog 149 1 := ⟨fun _ => by kernel_rfl⟩
instance : TyOf Tryd.prog 150 (.interface #[("Is", 152)]) := ⟨Tryd.underlying150⟩
instance : ZeroOf Tryd.prog 150 (.nilIface) := ⟨Tryd.zeroValue150⟩
instance : SzOf Tryd.prog 150 1 := ⟨fun _ => by kernel_rfl⟩
instance : InfoOf Tryd.prog 150 16 := ⟨Tryd.t150, Tryd.typeInfo150, by kernel_rfl⟩
instance : OneC Tryd.prog 150 := ⟨fun _ => by kernel_rfl, fun _ => by kernel_rfl⟩
instance : TyOf Tryd.prog 152 ((Tryd.prog.underlying 152).getD .bool) := ⟨by kernel_rfl⟩
instance : ZeroOf Tryd.prog 152 (.nilFunc) := ⟨Tryd.zeroValue152⟩
instance : OneC Tryd.prog 152 := ⟨fun _ => by kernel_rfl, fun _ => by kernel_rfl⟩
instance : SzOf Tryd.prog 152 1 := ⟨fun _ => by kernel_rfl⟩
instance : TyOf Tryd.prog 153 ((Tryd.prog.underlying 153).getD .bool) := ⟨by kernel_rfl⟩
instance : ZeroOf Tryd.prog 153 (.nilFunc) := ⟨Tryd.zeroValue153⟩
instance : OneC Tryd.prog 153 := ⟨fun _ => by kernel_rfl, fun _ => by kernel_rfl⟩
instance : SzOf Tryd.prog 153 1 := ⟨fun _ => by kernel_rfl⟩
instance : TyOf Tryd.prog 154 (.pointer 24) := ⟨Tryd.underlying154⟩
instance : ZeroOf Tryd.prog 154 (.pointer none) := ⟨Tryd.zeroValue154⟩
instance : SzOf Tryd.prog 154 1 := ⟨fun _ => by kernel_rfl⟩
instance : InfoOf Tryd.prog 154 8 := ⟨Tryd.t154, Tryd.typeInfo154, by kernel_rfl⟩
instance : OneC Tryd.prog 154 := ⟨fun _ => by kernel_rfl, fun _ => by kernel_rfl⟩
instance : TyOf Tryd.prog 155 ((Tryd.prog.underlying 155).getD .bool) := ⟨by kernel_rfl⟩
instance : ZeroOf Tryd.prog 155 (.agg #[.pointer none, .pointer none, .pointer none, .string { data := #[] }]) := ⟨Tryd.zeroValue155⟩
instance : SzOf Tryd.prog 155 4 := ⟨fun _ => by kernel_rfl⟩
instance : InfoOf Tryd.prog 155 40 := ⟨Tryd.t155, Tryd.typeInfo155, by kernel_rfl⟩
instance : AggC Tryd.prog 155 4 := ⟨fun _ => by kernel_rfl, fun _ => by kernel_rfl⟩
instance : StructPl Tryd.prog 155 #[(0, 1), (1, 1), (2, 1), (3, 1)] := ⟨_, Tryd.underlying155, fun _ => by kernel_rfl⟩
instance : FldC Tryd.prog 155 0 0 := ⟨_, Tryd.underlying155, _, rfl, rfl, 1, fun _ => by kernel_rfl, by decide⟩
instance : FldC Tryd.prog 155 1 1 := ⟨_, Tryd.underlying155, _, rfl, rfl, 1, fun _ => by kernel_rfl, by decide⟩
instance : FldC Tryd.prog 155 2 2 := ⟨_, Tryd.underlying155, _, rfl, rfl, 1, fun _ => by kernel_rfl, by decide⟩
instance : FldC Tryd.prog 155 3 3 := ⟨_, Tryd.underlying155, _, rfl, rfl, 1, fun _ => by kernel_rfl, by decide⟩
instance : TyOf Tryd.prog 156 ((Tryd.prog.underlying 156).getD .bool) := ⟨by kernel_rfl⟩
instance : ZeroOf Tryd.prog 156 (.agg #[.pointer none, .pointer none, .pointer none, .string { data := #[] }]) := ⟨Tryd.zeroValue156⟩
instance : SzOf Tryd.prog 156 4 := ⟨fun _ => by kernel_rfl⟩
instance : InfoOf Tryd.prog 156 40 := ⟨Tryd.t156, Tryd.typeInfo156, by kernel_rfl⟩
instance : AggC Tryd.prog 156 4 := ⟨fun _ => by kernel_rfl, fun _ => by kernel_rfl⟩
instance : StructPl Tryd.prog 156 #[(0, 1), (1, 1), (2, 1), (3, 1)] := ⟨_, Tryd.underlying156, fun _ => by kernel_rfl⟩
instance : FldC Tryd.prog 156 0 0 := ⟨_, Tryd.underlying156, _, rfl, rfl, 1, fun _ => by kernel_rfl, by decide⟩
instance : FldC Tryd.prog 156 1 1 := ⟨_, Tryd.underlying156, _, rfl, rfl, 1, fun _ => by kernel_rfl, by decide⟩
instance : FldC Tryd.prog 156 2 2 := ⟨_, Tryd.underlying156, _, rfl, rfl, 1, fun _ => by kernel_rfl, by decide⟩
instance : FldC Tryd.prog 156 3 3 := ⟨_, Tryd.underlying156, _, rfl, rfl, 1, fun _ => by kernel_rfl, by decide⟩
instance : TyOf Tryd.prog 157 (.array 0 16) := ⟨Tryd.underlying157⟩
instance : ZeroOf Tryd.prog 157 (.agg #[]) := ⟨Tryd.zeroValue157⟩
instance : SzOf Tryd.prog 157 0 := ⟨fun _ => by kernel_rfl⟩
instance : InfoOf Tryd.prog 157 0 := ⟨Tryd.t157, Tryd.typeInfo157, by kernel_rfl⟩
instance : AggC Tryd.prog 157 0 := ⟨fun _ => by kernel_rfl, fun _ => by kernel_rfl⟩
instance : TyOf Tryd.prog 158 ((Tryd.prog.underlying 158).getD .bool) := ⟨by kernel_rfl⟩
instance : ZeroOf Tryd.prog 158 (.agg #[]) := ⟨Tryd.zeroValue158⟩
instance : SzOf Tryd.prog 158 0 := ⟨fun _ => by kernel_rfl⟩
instance : InfoOf Tryd.prog 158 0 := ⟨Tryd.t158, Tryd.typeInfo158, by kernel_rfl⟩
instance : AggC Tryd.prog 158 0 := ⟨fun _ => by kernel_rfl, fun _ => by kernel_rfl⟩
instance : StructPl Tryd.prog 158 #[(0, 0)] := ⟨_, Tryd.underlying158, fun _ => by kernel_rfl⟩
instance : TyOf Tryd.prog 159 ((Tryd.prog.underlying 159).getD .bool) := ⟨by kernel_rfl⟩
instance : ZeroOf Tryd.prog 159 (.agg #[]) := ⟨Tryd.zeroValue159⟩
instance : SzOf Tryd.prog 159 0 := ⟨fun _ => by kernel_rfl⟩
instance : InfoOf Tryd.prog 159 0 := ⟨Tryd.t159, Tryd.typeInfo159, by kernel_rfl⟩
instance : AggC Tryd.prog 159 0 := ⟨fun _ => by kernel_rfl, fun _ => by kernel_rfl⟩
instance : StructPl Tryd.prog 159 #[(0, 0)] := ⟨_, Tryd.underlying159, fun _ => by kernel_rfl⟩
instance : TyOf Tryd.prog 160 ((Tryd.prog.underlying 160).getD .bool) := ⟨by kernel_rfl⟩
instance : ZeroOf Tryd.prog 160 (.nilFunc) := ⟨Tryd.zeroValue160⟩
instance : OneC Tryd.prog 160 := ⟨fun _ => by kernel_rfl, fun _ => by kernel_rfl⟩
instance : SzOf Tryd.prog 160 1 := ⟨fun _ => by kernel_rfl⟩
instance : TyOf Tryd.prog 161 (.int .u32) := ⟨Tryd.underlying161⟩
instance : ZeroOf Tryd.prog 161 (.int .u32 0) := ⟨Tryd.zeroValue161⟩
instance : SzOf Tryd.prog 161 1 := ⟨fun _ => by kernel_rfl⟩
instance : InfoOf Tryd.prog 161 4 := ⟨Tryd.t161, Tryd.typeInfo161, by kernel_rfl⟩
instance : OneC Tryd.prog 161 := ⟨fun _ => by kernel_rfl, fun _ => by kernel_rfl⟩
instance : TyOf Tryd.prog 162 (.int .u8) := ⟨Tryd.underlying162⟩
instance : ZeroOf Tryd.prog 162 (.int .u8 0) := ⟨Tryd.zeroValue162⟩
instance : SzOf Tryd.prog 162 1 := ⟨fun _ => by kernel_rfl⟩
instance : InfoOf Tryd.prog 162 1 := ⟨Tryd.t162, Tryd.typeInfo162, by kernel_rfl⟩
instance : OneC Tryd.prog 162 := ⟨fun _ => by kernel_rfl, fun _ => by kernel_rfl⟩
instance : TyOf Tryd.prog 163 ((Tryd.prog.underlying 163).getD .bool) := ⟨by kernel_rfl⟩
instance : ZeroOf Tryd.prog 163 (.nilFunc) := ⟨Tryd.zeroValue163⟩
instance : OneC Tryd.prog 163 := ⟨fun _ => by kernel_rfl, fun _ => by kernel_rfl⟩
instance : SzOf Tryd.prog 163 1 := ⟨fun _ => by kernel_rfl⟩
instance : TyOf Tryd.prog 164 (.pointer 5) := ⟨Tryd.underlying164⟩
instance : ZeroOf Tryd.prog 164 (.pointer none) := ⟨Tryd.zeroValue164⟩
instance : SzOf Tryd.prog 164 1 := ⟨fun _ => by kernel_rfl⟩
instance : InfoOf Tryd.prog 164 8 := ⟨Tryd.t164, Tryd.typeInfo164, by kernel_rfl⟩
instance : OneC Tryd.prog 164 := ⟨fun _ => by kernel_rfl, fun _ => by kernel_rfl⟩
instance : TyOf Tryd.prog 165 (.int .i32) := ⟨Tryd.underlying165⟩
instance : ZeroOf Tryd.prog 165 (.int .i32 0) := ⟨Tryd.zeroValue165⟩
instance : SzOf Tryd.prog 165 1 := ⟨fun _ => by kernel_rfl⟩
instance : InfoOf Tryd.prog 165 4 := ⟨Tryd.t165, Tryd.typeInfo165, by kernel_rfl⟩
instance : OneC Tryd.prog 165 := ⟨fun _ => by kernel_rfl, fun _ => by kernel_rfl⟩
instance : TyOf Tryd.prog 166 (.int .i32) := ⟨Tryd.underlying166⟩
instance : ZeroOf Tryd.prog 166 (.int .i32 0) := ⟨Tryd.zeroValue166⟩
instance : SzOf Tryd.prog 166 1 := ⟨fun _ => by kernel_rfl⟩
instance : InfoOf Tryd.prog 166 4 := ⟨Tryd.t166, Tryd.typeInfo166, by kernel_rfl⟩
instance : OneC Tryd.prog 166 := ⟨fun _ => by kernel_rfl, fun _ => by kernel_rfl⟩
instance : TyOf Tryd.prog 167 ((Tryd.prog.underlying 167).getD .bool) := ⟨by kernel_rfl⟩
instance : ZeroOf Tryd.prog 167 (.agg #[.int .u64 0, .int .u64 0, .int .u32 0, .int .u8 0, .int .u8 0, .int .u8 0, .int .u8 0, .nilFunc, .pointer none, .int .i32 0, .int .i32 0]) := ⟨Tryd.zeroValue167⟩
instance : SzOf Tryd.prog 167 11 := ⟨fun _ => by kernel_rfl⟩
instance : InfoOf Tryd.prog 167 48 := ⟨Tryd.t167, Tryd.typeInfo167, by kernel_rfl⟩
instance : AggC Tryd.prog 167 11 := ⟨fun _ => by kernel_rfl, fun _ => by kernel_rfl⟩
instance : StructPl Tryd.prog 167 #[(0, 1), (1, 1), (2, 1), (3, 1), (4, 1), (5, 1), (6, 1), (7, 1), (8, 1), (9, 1), (10, 1)] := ⟨_, Tryd.underlying167, fun _ => by kernel_rfl⟩
instance : FldC Tryd.prog 167 0 0 := ⟨_, Tryd.underlying167, _, rfl, rfl, 1, fun _ => by kernel_rfl, by decide⟩
instance : FldC Tryd.prog 167 1 1 := ⟨_, Tryd.underlying167, _, rfl, rfl, 1, fun _ => by kernel_rfl, by decide⟩
instance : FldC Tryd.prog 167 2 2 := ⟨_, Tryd.underlying167, _, rfl, rfl, 1, fun _ => by kernel_rfl, by decide⟩
instance : FldC Tryd.prog 167 3 3 := ⟨_, Tryd.underlying167, _, rfl, rfl, 1, fun _ => by kernel_rfl, by decide⟩
instance : FldC Tryd.prog 167 4 4 := ⟨_, Tryd.underlying167, _, rfl, rfl, 1, fun _ => by kernel_rfl, by decide⟩
instance : FldC Tryd.prog 167 5 5 := ⟨_, Tryd.underlying167, _, rfl, rfl, 1, fun _ => by kernel_rfl, by decide⟩
instance : FldC Tryd.prog 167 6 6 := ⟨_, Tryd.underlying167, _, rfl, rfl, 1, fun _ => by kernel_rfl, by decide⟩
instance : FldC Tryd.prog 167 7 7 := ⟨_, Tryd.underlying167, _, rfl, rfl, 1, fun _ => by kernel_rfl, by decide⟩
instance : FldC Tryd.prog 167 8 8 := ⟨_, Tryd.underlying167, _, rfl, rfl, 1, fun _ => by kernel_rfl, by decide⟩
instance : FldC Tryd.prog 167 9 9 := ⟨_, Tryd.underlying167, _, rfl, rfl, 1, fun _ => by kernel_rfl, by decide⟩
instance : FldC Tryd.prog 167 10 10 := ⟨_, Tryd.underlying167, _, rfl, rfl, 1, fun _ => by kernel_rfl, by decide⟩
instance : TyOf Tryd.prog 168 ((Tryd.prog.underlying 168).getD .bool) := ⟨by kernel_rfl⟩
instance : ZeroOf Tryd.prog 168 (.agg #[.int .u64 0, .int .u64 0, .int .u32 0, .int .u8 0, .int .u8 0, .int .u8 0, .int .u8 0, .nilFunc, .pointer none, .int .i32 0, .int .i32 0]) := ⟨Tryd.zeroValue168⟩
instance : SzOf Tryd.prog 168 11 := ⟨fun _ => by kernel_rfl⟩
instance : InfoOf Tryd.prog 168 48 := ⟨Tryd.t168, Tryd.typeInfo168, by kernel_rfl⟩
instance : AggC Tryd.prog 168 11 := ⟨fun _ => by kernel_rfl, fun _ => by kernel_rfl⟩
instance : StructPl Tryd.prog 168 #[(0, 1), (1, 1), (2, 1), (3, 1), (4, 1), (5, 1), (6, 1), (7, 1), (8, 1), (9, 1), (10, 1)] := ⟨_, Tryd.underlying168, fun _ => by kernel_rfl⟩
instance : FldC Tryd.prog 168 0 0 := ⟨_, Tryd.underlying168, _, rfl, rfl, 1, fun _ => by kernel_rfl, by decide⟩
instance : FldC Tryd.prog 168 1 1 := ⟨_, Tryd.underlying168, _, rfl, rfl, 1, fun _ => by kernel_rfl, by decide⟩
instance : FldC Tryd.prog 168 2 2 := ⟨_, Tryd.underlying168, _, rfl, rfl, 1, fun _ => by kernel_rfl, by decide⟩
instance : FldC Tryd.prog 168 3 3 := ⟨_, Tryd.underlying168, _, rfl, rfl, 1, fun _ => by kernel_rfl, by decide⟩
instance : FldC Tryd.prog 168 4 4 := ⟨_, Tryd.underlying168, _, rfl, rfl, 1, fun _ => by kernel_rfl, by decide⟩
instance : FldC Tryd.prog 168 5 5 := ⟨_, Tryd.underlying168, _, rfl, rfl, 1, fun _ => by kernel_rfl, by decide⟩
instance : FldC Tryd.prog 168 6 6 := ⟨_, Tryd.underlying168, _, rfl, rfl, 1, fun _ => by kernel_rfl, by decide⟩
instance : FldC Tryd.prog 168 7 7 := ⟨_, Tryd.underlying168, _, rfl, rfl, 1, fun _ => by kernel_rfl, by decide⟩
instance : FldC Tryd.prog 168 8 8 := ⟨_, Tryd.underlying168, _, rfl, rfl, 1, fun _ => by kernel_rfl, by decide⟩
instance : FldC Tryd.prog 168 9 9 := ⟨_, Tryd.underlying168, _, rfl, rfl, 1, fun _ => by kernel_rfl, by decide⟩
instance : FldC Tryd.prog 168 10 10 := ⟨_, Tryd.underlying168, _, rfl, rfl, 1, fun _ => by kernel_rfl, by decide⟩
instance : TyOf Tryd.prog 169 ((Tryd.prog.underlying 169).getD .bool) := ⟨by kernel_rfl⟩
instance : ZeroOf Tryd.prog 169 (.nilFunc) := ⟨Tryd.zeroValue169⟩
instance : OneC Tryd.prog 169 := ⟨fun _ => by kernel_rfl, fun _ => by kernel_rfl⟩
instance : SzOf Tryd.prog 169 1 := ⟨fun _ => by kernel_rfl⟩
instance : TyOf Tryd.prog 170 ((Tryd.prog.underlying 170).getD .bool) := ⟨by kernel_rfl⟩
instance : ZeroOf Tryd.prog 170 (.nilFunc) := ⟨Tryd.zeroValue170⟩
instance : OneC Tryd.prog 170 := ⟨fun _ => by kernel_rfl, fun _ => by kernel_rfl⟩
instance : SzOf Tryd.prog 170 1 := ⟨fun _ => by kernel_rfl⟩
instance : TyOf Tryd.prog 171 ((Tryd.prog.underlying 171).getD .bool) := ⟨by kernel_rfl⟩
instance : ZeroOf Tryd.prog 171 (.agg #[.string { data := #[] }, .int .u8 0]) := ⟨Tryd.zeroValue171⟩
instance : SzOf Tryd.prog 171 2 := ⟨fun _ => by kernel_rfl⟩
instance : InfoOf Tryd.prog 171 24 := ⟨Tryd.t171, Tryd.typeInfo171, by kernel_rfl⟩
instance : AggC Tryd.prog 171 2 := ⟨fun _ => by kernel_rfl, fun _ => by kernel_rfl⟩
instance : StructPl Tryd.prog 171 #[(0, 1), (1, 1)] := ⟨_, Tryd.underlying171, fun _ => by kernel_rfl⟩
instance : FldC Tryd.prog 171 0 0 := ⟨_, Tryd.underlying171, _, rfl, rfl, 1, fun _ => by kernel_rfl, by decide⟩
instance : FldC Tryd.prog 171 1 1 := ⟨_, Tryd.underlying171, _, rfl, rfl, 1, fun _ => by kernel_rfl, by decide⟩
instance : TyOf Tryd.prog 172 ((Tryd.prog.underlying 172).getD .bool) := ⟨by kernel_rfl⟩
instance : ZeroOf Tryd.prog 172 (.agg #[.string { data := #[] }, .int .u8 0]) := ⟨Tryd.zeroValue172⟩
instance : SzOf Tryd.prog 172 2 := ⟨fun _ => by kernel_rfl⟩
instance : InfoOf Tryd.prog 172 24 := ⟨Tryd.t172, Tryd.typeInfo172, by kernel_rfl⟩
instance : AggC Tryd.prog 172 2 := ⟨fun _ => by kernel_rfl, fun _ => by kernel_rfl⟩
instance : StructPl Tryd.prog 172 #[(0, 1), (1, 1)] := ⟨_, Tryd.underlying172, fun _ => by kernel_rfl⟩
instance : FldC Tryd.prog 172 0 0 := ⟨_, Tryd.underlying172, _, rfl, rfl, 1, fun _ => by kernel_rfl, by decide⟩
instance : FldC Tryd.prog 172 1 1 := ⟨_, Tryd.underlying172, _, rfl, rfl, 1, fun _ => by kernel_rfl, by decide⟩
instance : TyOf Tryd.prog 173 (.pointer 177) := ⟨Tryd.underlying173⟩
instance : ZeroOf Tryd.prog 173 (.pointer none) := ⟨Tryd.zeroValue173⟩
instance : SzOf Tryd.prog 173 1 := ⟨fun _ => by kernel_rfl⟩
instance : InfoOf Tryd.prog 173 8 := ⟨Tryd.t173, Tryd.typeInfo173, by kernel_rfl⟩
instance : OneC Tryd.prog 173 := ⟨fun _ => by kernel_rfl, fun _ => by kernel_rfl⟩
instance : TyOf Tryd.prog 174 ((Tryd.prog.underlying 174).getD .bool) := ⟨by kernel_rfl⟩
instance : ZeroOf Tryd.prog 174 (.nilFunc) := ⟨Tryd.zeroValue174⟩
instance : OneC Tryd.prog 174 := ⟨fun _ => by kernel_rfl, fun _ => by kernel_rfl⟩
instance : SzOf Tryd.prog 174 1 := ⟨fun _ => by kernel_rfl⟩
instance : TyOf Tryd.prog 175 (.int .u16) := ⟨Tryd.underlying175⟩
instance : ZeroOf Tryd.prog 175 (.int .u16 0) := ⟨Tryd.zeroValue175⟩
instance : SzOf Tryd.prog 175 1 := ⟨fun _ => by kernel_rfl⟩
instance : InfoOf Tryd.prog 175 2 := ⟨Tryd.t175, Tryd.typeInfo175, by kernel_rfl⟩
instance : OneC Tryd.prog 175 := ⟨fun _ => by kernel_rfl, fun _ => by kernel_rfl⟩
instance : TyOf Tryd.prog 176 ((Tryd.prog.underlying 176).getD .bool) := ⟨by kernel_rfl⟩
instance : ZeroOf Tryd.prog 176 (.agg #[.int .i32 0, .int .u16 0, .int .u16 0, .int .u32 0, .int .u32 0]) := ⟨Tryd.zeroValue176⟩
instance : SzOf Tryd.prog 176 5 := ⟨fun _ => by kernel_rfl⟩
instance : InfoOf Tryd.prog 176 16 := ⟨Tryd.t176, Tryd.typeInfo176, by kernel_rfl⟩
instance : AggC Tryd.prog 176 5 := ⟨fun _ => by kernel_rfl, fun _ => by kernel_rfl⟩
instance : StructPl Tryd.prog 176 #[(0, 1), (1, 1), (2, 1), (3, 1), (4, 1)] := ⟨_, Tryd.underlying176, fun _ => by kernel_rfl⟩
instance : FldC Tryd.prog 176 0 0 := ⟨_, Tryd.underlying176, _, rfl, rfl, 1, fun _ => by kernel_rfl, by decide⟩
instance : FldC Tryd.prog 176 1 1 := ⟨_, Tryd.underlying176, _, rfl, rfl, 1, fun _ => by kernel_rfl, by decide⟩
instance : FldC Tryd.prog 176 2 2 := ⟨_, Tryd.underlying176, _, rfl, rfl, 1, fun _ => by kernel_rfl, by decide⟩
instance : FldC Tryd.prog 176 3 3 := ⟨_, Tryd.underlying176, _, rfl, rfl, 1, fun _ => by kernel_rfl, by decide⟩
instance : FldC Tryd.prog 176 4 4 := ⟨_, Tryd.underlying176, _, rfl, rfl, 1, fun _ => by kernel_rfl, by decide⟩
instance : TyOf Tryd.prog 177 ((Tryd.prog.underlying 177).getD .bool) := ⟨by kernel_rfl⟩
instance : ZeroOf Tryd.prog 177 (.agg #[.int .i32 0, .int .u16 0, .int .u16 0, .int .u32 0, .int .u32 0]) := ⟨Tryd.zeroValue177⟩
instance : SzOf Tryd.prog 177 5 := ⟨fun _ => by kernel_rfl⟩
instance : InfoOf Tryd.prog 177 16 := ⟨Tryd.t177, Tryd.typeInfo177, by kernel_rfl⟩
instance : AggC Tryd.prog 177 5 := ⟨fun _ => by kernel_rfl, fun _ => by kernel_rfl⟩
instance : StructPl Tryd.prog 177 #[(0, 1), (1, 1), (2, 1), (3, 1), (4, 1)] := ⟨_, Tryd.underlying177, fun _ => by kernel_rfl⟩
instance : FldC Tryd.prog 177 0 0 := ⟨_, Tryd.underlying177, _, rfl, rfl, 1, fun _ => by kernel_rfl, by decide⟩
instance : FldC Tryd.prog 177 1 1 := ⟨_, Tryd.underlying177, _, rfl, rfl, 1, fun _ => by kernel_rfl, by decide⟩
instance : FldC Tryd.prog 177 2 2 := ⟨_, Tryd.underlying177, _, rfl, rfl, 1, fun _ => by kernel_rfl, by decide⟩
instance : FldC Tryd.prog 177 3 3 := ⟨_, Tryd.underlying177, _, rfl, rfl, 1, fun _ => by kernel_rfl, by decide⟩
instance : FldC Tryd.prog 177 4 4 := ⟨_, Tryd.underlying177, _, rfl, rfl, 1, fun _ => by kernel_rfl, by decide⟩
instance : TyOf Tryd.prog 178 (.slice 181) := ⟨Tryd.underlying178⟩
instance : ZeroOf Tryd.prog 178 (.slice none 0 0) := ⟨Tryd.zeroValue178⟩
instance : SzOf Tryd.prog 178 1 := ⟨fun _ => by kernel_rfl⟩
instance : InfoOf Tryd.prog 178 24 := ⟨Tryd.t178, Tryd.typeInfo178, by kernel_rfl⟩
instance : OneC Tryd.prog 178 := ⟨fun _ => by kernel_rfl, fun _ => by kernel_rfl⟩
instance : TyOf Tryd.prog 179 (.int .i32) := ⟨Tryd.underlying179⟩
instance : ZeroOf Tryd.prog 179 (.int .i32 0) := ⟨Tryd.zeroValue179⟩
instance : SzOf Tryd.prog 179 1 := ⟨fun _ => by kernel_rfl⟩
instance : InfoOf Tryd.prog 179 4 := ⟨Tryd.t179, Tryd.typeInfo179, by kernel_rfl⟩
instance : OneC Tryd.prog 179 := ⟨fun _ => by kernel_rfl, fun _ => by kernel_rfl⟩
instance : TyOf Tryd.prog 180 ((Tryd.prog.underlying 180).getD .bool) := ⟨by kernel_rfl⟩
instance : ZeroOf Tryd.prog 180 (.agg #[.int .i32 0, .int .i32 0, .int .i32 0, .int .i32 0]) := ⟨Tryd.zeroValue180⟩
instance : SzOf Tryd.prog 180 4 := ⟨fun _ => by kernel_rfl⟩
instance : InfoOf Tryd.prog 180 16 := ⟨Tryd.t180, Tryd.typeInfo180, by kernel_rfl⟩
instance : AggC Tryd.prog 180 4 := ⟨fun _ => by kernel_rfl, fun _ => by kernel_rfl⟩
instance : StructPl Tryd.prog 180 #[(0, 1), (1, 1), (2, 1), (3, 1)] := ⟨_, Tryd.underlying180, fun _ => by kernel_rfl⟩
instance : FldC Tryd.prog 180 0 0 := ⟨_, Tryd.underlying180, _, rfl, rfl, 1, fun _ => by kernel_rfl, by decide⟩
instance : FldC Tryd.prog 180 1 1 := ⟨_, Tryd.underlying180, _, rfl, rfl, 1, fun _ => by kernel_rfl, by decide⟩
instance : FldC Tryd.prog 180 2 2 := ⟨_, Tryd.underlying180, _, rfl, rfl, 1, fun _ => by kernel_rfl, by decide⟩
instance : FldC Tryd.prog 180 3 3 := ⟨_, Tryd.underlying180, _, rfl, rfl, 1, fun _ => by kernel_rfl, by decide⟩
instance : TyOf Tryd.prog 181 ((Tryd.prog.underlying 181).getD .bool) := ⟨by kernel_rfl⟩
instance : ZeroOf Tryd.prog 181 (.agg #[.int .i32 0, .int .i32 0, .int .i32 0, .int .i32 0]) := ⟨Tryd.zeroValue181⟩
instance : SzOf Tryd.prog 181 4 := ⟨fun _ => by kernel_rfl⟩
instance : InfoOf Tryd.prog 181 16 := ⟨Tryd.t181, Tryd.typeInfo181, by kernel_rfl⟩
instance : AggC Tryd.prog 181 4 := ⟨fun _ => by kernel_rfl, fun _ => by kernel_rfl⟩
instance : StructPl Tryd.prog 181 #[(0, 1), (1, 1), (2, 1), (3, 1)] := ⟨_, Tryd.underlying181, fun _ => by kernel_rfl⟩
instance : FldC Tryd.prog 181 0 0 := ⟨_, Tryd.underlying181, _, rfl, rfl, 1, fun _ => by kernel_rfl, by decide⟩
instance : FldC Tryd.prog 181 1 1 := ⟨_, Tryd.underlying181, _, rfl, rfl, 1, fun _ => by kernel_rfl, by decide⟩
instance : FldC Tryd.prog 181 2 2 := ⟨_, Tryd.underlying181, _, rfl, rfl, 1, fun _ => by kernel_rfl, by decide⟩
instance : FldC Tryd.prog 181 3 3 := ⟨_, Tryd.underlying181, _, rfl, rfl, 1, fun _ => by kernel_rfl, by decide⟩
instance : TyOf Tryd.prog 182 (.pointer 55) := ⟨Tryd.underlying182⟩
instance : ZeroOf Tryd.prog 182 (.pointer none) := ⟨Tryd.zeroValue182⟩
instance : SzOf Tryd.prog 182 1 := ⟨fun _ => by kernel_rfl⟩
instance : InfoOf Tryd.prog 182 8 := ⟨Tryd.t182, Tryd.typeInfo182, by kernel_rfl⟩
instance : OneC Tryd.prog 182 := ⟨fun _ => by kernel_rfl, fun _ => by kernel_rfl⟩
instance : CallOk Tryd.prog 2 := callOk_of Tryd.func2 (by kernel_rfl) rfl
instance : CallOk Tryd.prog 3 := callOk_of Tryd.func3 (by kernel_rfl) rfl
instance : CallOk Tryd.prog 4 := callOk_of Tryd.func4 (by kernel_rfl) rfl
instance : CallOk Tryd.prog 5 := callOk_of Tryd.func5 (by kernel_rfl) rfl
instance : CallOk Tryd.prog 6 := callOk_of Tryd.func6 (by kernel_rfl) rfl
instance : CallOk Tryd.prog 7 := callOk_of Tryd.func7 (by kernel_rfl) rfl
instance : CallOk Tryd.prog 8 := callOk_of Tryd.func8 (by kernel_rfl) rfl
instance : CallOk Tryd.prog 9 := callOk_of Tryd.func9 (by kernel_rfl) rfl
instance : CallOk Tryd.prog 10 := callOk_of Tryd.func10 (by kernel_rfl) rfl
instance : CallOk Tryd.prog 11 := callOk_of Tryd.func11 (by kernel_rfl) rfl
instance : CallOk Tryd.prog 12 := callOk_of Tryd.func12 (by kernel_rfl) rfl
instance : CallOk Tryd.prog 13 := callOk_of Tryd.func13 (by kernel_rfl) rfl
instance : CallOk Tryd.prog 14 := callOk_of Tryd.func14 (by kernel_rfl) rfl
instance : CallOk Tryd.prog 15 := callOk_of Tryd.func15 (by kernel_rfl) rfl
instance : CallOk Tryd.prog 16 := callOk_of Tryd.func16 (by kernel_rfl) rfl
instance : CallOk Tryd.prog 17 := callOk_of Tryd.func17 (by kernel_rfl) rfl
instance : CallOk Tryd.prog 18 := callOk_of Tryd.func18 (by kernel_rfl) rfl
instance : CallOk Tryd.prog 19 := callOk_of Tryd.func19 (by kernel_rfl) rfl
instance : CallOk Tryd.prog 20 := callOk_of Tryd.func20 (by kernel_rfl) rfl
instance : CallOk Tryd.prog 21 := callOk_of Tryd.func21 (by kernel_rfl) rfl
instance : CallOk Tryd.prog 22 := callOk_of Tryd.func22 (by kernel_rfl) rfl
instance : CallOk Tryd.prog 23 := callOk_of Tryd.func23 (by kernel_rfl) rfl
instance : CallOk Tryd.prog 24 := callOk_of Tryd.func24 (by kernel_rfl) rfl
instance : CallOk Tryd.prog 25 := callOk_of Tryd.func25 (by kernel_rfl) rfl
instance : CallOk Tryd.prog 26 := callOk_of Tryd.func26 (by kernel_rfl) rfl
instance : CallOk Tryd.prog 27 := callOk_of Tryd.func27 (by kernel_rfl) rfl
instance : CallOk Tryd.prog 28 := callOk_of Tryd.func28 (by kernel_rfl) rfl
instance : CallOk Tryd.prog 29 := callOk_of Tryd.func29 (by kernel_rfl) rfl
instance : CallOk Tryd.prog 30 := callOk_of Tryd.func30 (by kernel_rfl) rfl
instance : CallOk Tryd.prog 31 := callOk_of Tryd.func31 (by kernel_rfl) rfl
instance : CallOk Tryd.prog 32 := callOk_of Tryd.func32 (by kernel_rfl) rfl
instance : CallOk Tryd.prog 33 := callOk_of Tryd.func33 (by kernel_rfl) rfl
instance : CallOk Tryd.prog 34 := callOk_of Tryd.func34 (by kernel_rfl) rfl
instance : CallOk Tryd.prog 35 := callOk_of Tryd.func35 (by kernel_rfl) rfl
instance : CallOk Tryd.prog 36 := callOk_of Tryd.func36 (by kernel_rfl) rfl
instance : CallOk Tryd.prog 37 := callOk_of Tryd.func37 (by kernel_rfl) rfl
instance : CallOk Tryd.prog 38 := callOk_of Tryd.func38 (by kernel_rfl) rfl
instance : CallOk Tryd.prog 39 := callOk_of Tryd.func39 (by kernel_rfl) rfl
instance : CallOk Tryd.prog 40 := callOk_of Tryd.func40 (by kernel_rfl) rfl
instance : CallOk Tryd.prog 41 := callOk_of Tryd.func41 (by kernel_rfl) rfl
instance : CallOk Tryd.prog 42 := callOk_of Tryd.func42 (by kernel_rfl) rfl
instance : CallOk Tryd.prog 43 := callOk_of Tryd.func43 (by kernel_rfl) rfl
instance : CallOk Tryd.prog 44 := callOk_of Tryd.func44 (by kernel_rfl) rfl
instance : CallOk Tryd.prog 45 := callOk_of Tryd.func45 (by kernel_rfl) rfl
instance : CallOk Tryd.prog 46 := callOk_of Tryd.func46 (by kernel_rfl) rfl
instance : CallOk Tryd.prog 47 := callOk_of Tryd.func47 (by kernel_rfl) rfl
instance : CallOk Tryd.prog 48 := callOk_of Tryd.func48 (by kernel_rfl) rfl
instance : CallOk Tryd.prog 49 := callOk_of Tryd.func49 (by kernel_rfl) rfl
instance : CallOk Tryd.prog 50 := callOk_of Tryd.func50 (by kernel_rfl) rfl
instance : CallOk Tryd.prog 51 := callOk_of Tryd.func51 (by kernel_rfl) rfl
instance : CallOk Tryd.prog 52 := callOk_of Tryd.func52 (by kernel_rfl) rfl
instance : CallOk Tryd.prog 53 := callOk_of Tryd.func53 (by kernel_rfl) rfl
instance : CallOk Tryd.prog 54 := callOk_of Tryd.func54 (by kernel_rfl) rfl
instance : CallOk Tryd.prog 55 := callOk_of Tryd.func55 (by kernel_rfl) rfl
instance : CallOk Tryd.prog 56 := callOk_of Tryd.func56 (by kernel_rfl) rfl
instance : CallOk Tryd.prog 57 := callOk_of Tryd.func57 (by kernel_rfl) rfl
instance : CallOk Tryd.prog 58 := callOk_of Tryd.func58 (by kernel_rfl) rfl
instance : CallOk Tryd.prog 59 := callOk_of Tryd.func59 (by kernel_rfl) rfl
instance : CallOk Tryd.prog 60 := callOk_of Tryd.func60 (by kernel_rfl) rfl
instance : CallOk Tryd.prog 61 := callOk_of Tryd.func61 (by kernel_rfl) rfl
instance : CallOk Tryd.prog 62 := callOk_of Tryd.func62 (by kernel_rfl) rfl
instance : CallOk Tryd.prog 63 := callOk_of Tryd.func63 (by kernel_rfl) rfl
instance : CallOk Tryd.prog 64 := callOk_of Tryd.func64 (by kernel_rfl) rfl
instance : CallOk Tryd.prog 68 := callOk_of Tryd.func68 (by kernel_rfl) rfl
instance : CallOk Tryd.prog 70 := callOk_of Tryd.func70 (by kernel_rfl) rfl
instance : CallOk Tryd.prog 71 := callOk_of Tryd.func71 (by kernel_rfl) rfl
instance : CallOk Tryd.prog 72 := callOk_of Tryd.func72 (by kernel_rfl) rfl
instance : CallOk Tryd.prog 73 := callOk_of Tryd.func73 (by kernel_rfl) rfl
instance : CallOk Tryd.prog 74 := callOk_of Tryd.func74 (by kernel_rfl) rfl
instance : CallOk Tryd.prog 75 := callOk_of Tryd.func75 (by kernel_rfl) rfl
instance : CallOk Tryd.prog 76 := callOk_of Tryd.func76 (by kernel_rfl) rfl
instance : CallOk Tryd.prog 77 := callOk_of Tryd.func77 (by kernel_rfl) rfl
instance : CallOk Tryd.prog 78 := callOk_of Tryd.func78 (by kernel_rfl) rfl
instance : CallOk Tryd.prog 79 := callOk_of Tryd.func79 (by kernel_rfl) rfl
instance : CallOk Tryd.prog 80 := callOk_of Tryd.func80 (by kernel_rfl) rfl
instance : CallOk Tryd.prog 81 := callOk_of Tryd.func81 (by kernel_rfl) rfl
instance : CallOk Tryd.prog 82 := callOk_of Tryd.func82 (by kernel_rfl) rfl
instance : CallOk Tryd.prog 83 := callOk_of Tryd.func83 (by kernel_rfl) rfl
instance : CallOk Tryd.prog 84 := callOk_of Tryd.func84 (by kernel_rfl) rfl
instance : CallOk Tryd.prog 85 := callOk_of Tryd.func85 (by kernel_rfl) rfl
instance : CallOk Tryd.prog 86 := callOk_of Tryd.func86 (by kernel_rfl) rfl
instance : CallOk Tryd.prog 87 := callOk_of Tryd.func87 (by kernel_rfl) rfl
instance : CallOk Tryd.prog 88 := callOk_of Tryd.func88 (by kernel_rfl) rfl
instance : CallOk Tryd.prog 91 := callOk_of Tryd.func91 (by kernel_rfl) rfl
instance : CallOk Tryd.prog 92 := callOk_of Tryd.func92 (by kernel_rfl) rfl
instance : CallOk Tryd.prog 93 := callOk_of Tryd.func93 (by kernel_rfl) rfl
instance : CallOk Tryd.prog 94 := callOk_of Tryd.func94 (by kernel_rfl) rfl
instance : CallOk Tryd.prog 95 := callOk_of Tryd.func95 (by kernel_rfl) rfl
instance : CallOk Tryd.prog 115 := callOk_of Tryd.func115 (by kernel_rfl) rfl
instance : CallOk Tryd.prog 134 := callOk_of Tryd.func134 (by kernel_rfl) rfl
theorem mixed : Tryd.prog.follows .mixedOrders = true := by kernel_rfl
end Go.Proofs.YtgfdlpcdjklcoaaDoor
