/- The model's entries for internal/reflectlite at this program's types; errors.As and errors.Is; no condition. -/
import Derived.Test.YtgfdlpcdjklcoaaDoorFacts
import Derived.Test.YtgfdlpcdjklcoaaDoorExt
import Derived.LaidEql
import Derived.Stop.Asserts
namespace Go.Proofs.YtgfdlpcdjklcoaaDoor
open Go Go.RowKit Go.Extern.Stop Go.Stop Go.Extern
set_option linter.unusedVariables false
set_option maxRecDepth 20000
instance : ExtOf Tryd.prog 65 (fun args => ReflectliteValue.unpack (args.getD 0 (.tuple #[]))) := ⟨@run_callFunc_extern Tryd.prog 65 _ _ Tryd.func65 (by kernel_rfl) (by kernel_rfl) (by kernel_rfl) (by kernel_rfl)⟩
instance : ExtOf Tryd.prog 66 (ReflectliteValue.methodAny (ReflectliteValue.valueError "reflectlite.Value.Type" 0) (fun t _ _ _ => ReflectliteType.toType t)) := ⟨@run_callFunc_extern Tryd.prog 66 _ _ Tryd.func66 (by kernel_rfl) (by kernel_rfl) (by kernel_rfl) (by kernel_rfl)⟩
instance : ExtOf Tryd.prog 67 (ReflectliteValue.method (ReflectliteValue.valueError "reflectlite.Value.IsNil" 0) ReflectliteValue.isNil) := ⟨@run_callFunc_extern Tryd.prog 67 _ _ Tryd.func67 (by kernel_rfl) (by kernel_rfl) (by kernel_rfl) (by kernel_rfl)⟩
instance : ExtOf Tryd.prog 110 (ReflectliteType.abiMethod fun t => do pure (.int .u8 (← Rtype.kind t))) := ⟨@run_callFunc_extern Tryd.prog 110 _ _ Tryd.func110 (by kernel_rfl) (by kernel_rfl) (by kernel_rfl) (by kernel_rfl)⟩
instance : ExtOf Tryd.prog 122 (ReflectliteType.method ReflectliteType.elem) := ⟨@run_callFunc_extern Tryd.prog 122 _ _ Tryd.func122 (by kernel_rfl) (by kernel_rfl) (by kernel_rfl) (by kernel_rfl)⟩
instance : ExtOf Tryd.prog 123 (ReflectliteType.relation "Implements" ReflectliteType.implements_) := ⟨@run_callFunc_extern Tryd.prog 123 _ _ Tryd.func123 (by kernel_rfl) (by kernel_rfl) (by kernel_rfl) (by kernel_rfl)⟩
instance : ExtOf Tryd.prog 69 ReflectliteType.typeOf := ⟨@run_callFunc_extern Tryd.prog 69 _ _ Tryd.func69 (by kernel_rfl) (by kernel_rfl) (by kernel_rfl) (by kernel_rfl)⟩
instance : ExtOf Tryd.prog 120 (ReflectliteType.relation "AssignableTo" ReflectliteType.assignableTo) := ⟨@run_callFunc_extern Tryd.prog 120 _ _ Tryd.func120 (by kernel_rfl) (by kernel_rfl) (by kernel_rfl) (by kernel_rfl)⟩
instance : ExtOf Tryd.prog 89 (ReflectliteValue.method (ReflectliteValue.valueError "reflectlite.Value.Elem" 0) ReflectliteValue.elem) := ⟨@run_callFunc_extern Tryd.prog 89 _ _ Tryd.func89 (by kernel_rfl) (by kernel_rfl) (by kernel_rfl) (by kernel_rfl)⟩
instance : ExtOf Tryd.prog 90 ReflectliteValue.set := ⟨@run_callFunc_extern Tryd.prog 90 _ _ Tryd.func90 (by kernel_rfl) (by kernel_rfl) (by kernel_rfl) (by kernel_rfl)⟩
instance (h : Value) : MethOf Tryd.prog 138 (.agg #[h]) "Kind" 110 h := ⟨fun w => by kernel_rfl⟩
instance (h : Value) : MethOf Tryd.prog 138 (.agg #[h]) "Elem" 122 (.agg #[h]) := ⟨fun w => by kernel_rfl⟩
instance (h : Value) : MethOf Tryd.prog 138 (.agg #[h]) "Implements" 123 (.agg #[h]) := ⟨fun w => by kernel_rfl⟩
instance (h : Value) : MethOf Tryd.prog 138 (.agg #[h]) "AssignableTo" 120 (.agg #[h]) := ⟨fun w => by kernel_rfl⟩
instance (h : Value) : MethOf Tryd.prog 138 (.agg #[h]) "Comparable" 121 (.agg #[h]) := ⟨fun w => by kernel_rfl⟩
instance (h : Value) : MethOf Tryd.prog 84 h "Unwrap" 115 h := ⟨fun w => by kernel_rfl⟩
end Go.Proofs.YtgfdlpcdjklcoaaDoor
