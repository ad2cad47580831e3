/- What errors.As asks of internal/reflectlite, at this program's types: closed facts, and the entries' laws. -/
import Derived.Test.YtmemgpcgjephmaaGreatDoorF0
import Derived.Stop.Asserts
set_option linter.unusedVariables false
set_option linter.unusedSimpArgs false
namespace Go.Proofs.YtmemgpcgjephmaaGreatDoor
open Go.RowKit Go.Extern.Stop Go.Stop Go.Extern
abbrev rt (t : Nat) : Value := .iface 131 (.agg #[.pointer (some ⟨4, t, none⟩)])
abbrev rv (t b fl : Nat) : Value := .agg #[.pointer (some ⟨4, t, none⟩), .pointer (some ⟨b, 0, none⟩), .int .u64 fl]
theorem x_method (z : Sem Value) (f : TypeId → Addr → Nat → Nat → Sem Value) (v : Value) :
    ReflectliteValue.method z f #[v] = (do match ← ReflectliteValue.parts v with | none => z | some (t, a, fl) => f t a fl (fl % 32)) := rfl
theorem x_set (v x : Value) : ReflectliteValue.set #[v, x] = (do
    let (some (dst, a, fl), some (src, b, _)) := (← ReflectliteValue.parts v, ← ReflectliteValue.parts x)
      | unsupported (.noEntry "extern/(internal/reflectlite.Value).Set.zeroValue")
    if fl / ReflectliteValue.flagAddr % 2 == 0 then unsupported (.noEntry "extern/(internal/reflectlite.Value).Set.unaddressable")
    let val ← loadVar src b
    if ← Rtype.directlyAssignable dst src then storeVar dst a val
    else if ← Rtype.implements dst src then
      if (← Rtype.kind src) == 20 then
        match val with
        | .nilIface => unsupported (.noEntry "extern/reflectlite: a nil value of one interface type handed on as a value of another")
        | _ => storeVar dst a val
      else storeVar dst a (.iface src val)
    else panicString ("reflectlite.Set: value of type " ++ (← Rtype.spelt src) ++ " is not assignable to type " ++ (← Rtype.spelt dst))
    pure (.tuple #[])) := rfl

theorem x_ValueOf (args : Array Value) (w : World) : (callFunc 61 args).run Tryz.prog w = (((fun args => ReflectliteValue.unpack (args.getD 0 (.tuple #[]))) args).run Tryz.prog w).andThen fun v w' => .ok (.value v) w' :=
  run_callFunc_extern (e := (fun args => ReflectliteValue.unpack (args.getD 0 (.tuple #[])))) Tryz.func61 (by kernel_rfl) (by kernel_rfl) (by kernel_rfl) (by kernel_rfl) args w
theorem x_Type (args : Array Value) (w : World) : (callFunc 62 args).run Tryz.prog w = (((ReflectliteValue.methodAny (ReflectliteValue.valueError "reflectlite.Value.Type" 0) (fun t _ _ _ => ReflectliteType.toType t)) args).run Tryz.prog w).andThen fun v w' => .ok (.value v) w' :=
  run_callFunc_extern (e := (ReflectliteValue.methodAny (ReflectliteValue.valueError "reflectlite.Value.Type" 0) (fun t _ _ _ => ReflectliteType.toType t))) Tryz.func62 (by kernel_rfl) (by kernel_rfl) (by kernel_rfl) (by kernel_rfl) args w
theorem x_IsNil (args : Array Value) (w : World) : (callFunc 63 args).run Tryz.prog w = (((ReflectliteValue.method (ReflectliteValue.valueError "reflectlite.Value.IsNil" 0) ReflectliteValue.isNil) args).run Tryz.prog w).andThen fun v w' => .ok (.value v) w' :=
  run_callFunc_extern (e := (ReflectliteValue.method (ReflectliteValue.valueError "reflectlite.Value.IsNil" 0) ReflectliteValue.isNil)) Tryz.func63 (by kernel_rfl) (by kernel_rfl) (by kernel_rfl) (by kernel_rfl) args w
theorem x_Kind (args : Array Value) (w : World) : (callFunc 121 args).run Tryz.prog w = (((ReflectliteType.abiMethod fun t => do pure (.int .u8 (← Rtype.kind t))) args).run Tryz.prog w).andThen fun v w' => .ok (.value v) w' :=
  run_callFunc_extern (e := (ReflectliteType.abiMethod fun t => do pure (.int .u8 (← Rtype.kind t)))) Tryz.func121 (by kernel_rfl) (by kernel_rfl) (by kernel_rfl) (by kernel_rfl) args w
theorem x_TElem (args : Array Value) (w : World) : (callFunc 134 args).run Tryz.prog w = (((ReflectliteType.method ReflectliteType.elem) args).run Tryz.prog w).andThen fun v w' => .ok (.value v) w' :=
  run_callFunc_extern (e := (ReflectliteType.method ReflectliteType.elem)) Tryz.func134 (by kernel_rfl) (by kernel_rfl) (by kernel_rfl) (by kernel_rfl) args w
theorem x_Implements (args : Array Value) (w : World) : (callFunc 135 args).run Tryz.prog w = (((ReflectliteType.relation "Implements" ReflectliteType.implements_) args).run Tryz.prog w).andThen fun v w' => .ok (.value v) w' :=
  run_callFunc_extern (e := (ReflectliteType.relation "Implements" ReflectliteType.implements_)) Tryz.func135 (by kernel_rfl) (by kernel_rfl) (by kernel_rfl) (by kernel_rfl) args w
theorem x_TypeOf (args : Array Value) (w : World) : (callFunc 73 args).run Tryz.prog w = ((ReflectliteType.typeOf args).run Tryz.prog w).andThen fun v w' => .ok (.value v) w' :=
  run_callFunc_extern (e := ReflectliteType.typeOf) Tryz.func73 (by kernel_rfl) (by kernel_rfl) (by kernel_rfl) (by kernel_rfl) args w
theorem x_AssignableTo (args : Array Value) (w : World) : (callFunc 132 args).run Tryz.prog w = (((ReflectliteType.relation "AssignableTo" ReflectliteType.assignableTo) args).run Tryz.prog w).andThen fun v w' => .ok (.value v) w' :=
  run_callFunc_extern (e := (ReflectliteType.relation "AssignableTo" ReflectliteType.assignableTo)) Tryz.func132 (by kernel_rfl) (by kernel_rfl) (by kernel_rfl) (by kernel_rfl) args w
theorem x_VElem (args : Array Value) (w : World) : (callFunc 74 args).run Tryz.prog w = (((ReflectliteValue.method (ReflectliteValue.valueError "reflectlite.Value.Elem" 0) ReflectliteValue.elem) args).run Tryz.prog w).andThen fun v w' => .ok (.value v) w' :=
  run_callFunc_extern (e := (ReflectliteValue.method (ReflectliteValue.valueError "reflectlite.Value.Elem" 0) ReflectliteValue.elem)) Tryz.func74 (by kernel_rfl) (by kernel_rfl) (by kernel_rfl) (by kernel_rfl) args w
theorem x_Set (args : Array Value) (w : World) : (callFunc 75 args).run Tryz.prog w = ((ReflectliteValue.set args).run Tryz.prog w).andThen fun v w' => .ok (.value v) w' :=
  run_callFunc_extern (e := ReflectliteValue.set) Tryz.func75 (by kernel_rfl) (by kernel_rfl) (by kernel_rfl) (by kernel_rfl) args w
theorem x_Comparable (args : Array Value) (w : World) : (callFunc 133 args).run Tryz.prog w = (((ReflectliteType.method fun t => do Rtype.noPackHeld "Comparable" t; pure (.bool (← typeInfo t).comparable)) args).run Tryz.prog w).andThen fun v w' => .ok (.value v) w' :=
  run_callFunc_extern (e := (ReflectliteType.method fun t => do Rtype.noPackHeld "Comparable" t; pure (.bool (← typeInfo t).comparable))) Tryz.func133 (by kernel_rfl) (by kernel_rfl) (by kernel_rfl) (by kernel_rfl) args w
theorem m_Kind (h : Value) : methB Tryz.prog 131 (.agg #[h]) "Kind" 121 (h) := fun w => by kernel_rfl
theorem m_Elem (h : Value) : methB Tryz.prog 131 (.agg #[h]) "Elem" 134 (.agg #[h]) := fun w => by kernel_rfl
theorem m_Implements (h : Value) : methB Tryz.prog 131 (.agg #[h]) "Implements" 135 (.agg #[h]) := fun w => by kernel_rfl
theorem m_AssignableTo (h : Value) : methB Tryz.prog 131 (.agg #[h]) "AssignableTo" 132 (.agg #[h]) := fun w => by kernel_rfl
theorem m_Comparable (h : Value) : methB Tryz.prog 131 (.agg #[h]) "Comparable" 133 (.agg #[h]) := fun w => by kernel_rfl
theorem ValueOf_PF (t : Nat) (w : World) : (callFunc 61 #[.iface 93 (.pointer (some ⟨t, 0, none⟩))]).run Tryz.prog w = .ok (.value (rv 93 w.heap.size 150)) (w.alloc (.cells #[.pointer (some ⟨t, 0, none⟩)] 93)) := by rw [x_ValueOf]; kernel_rfl
theorem Type_PF (b : Nat) (w : World) : (callFunc 62 #[rv 93 b 150]).run Tryz.prog w = .ok (.value (rt 93)) w := by rw [x_Type]; kernel_rfl
theorem Kind_PF (w : World) : (callFunc 121 #[.pointer (some ⟨4, 93, none⟩)]).run Tryz.prog w = .ok (.value (.int .u8 22)) w := by rw [x_Kind]; kernel_rfl
theorem Kind_F (w : World) : (callFunc 121 #[.pointer (some ⟨4, 66, none⟩)]).run Tryz.prog w = .ok (.value (.int .u8 22)) w := by rw [x_Kind]; kernel_rfl
theorem parts_PF (b : Nat) (w : World) : (ReflectliteValue.parts (rv 93 b 150)).run Tryz.prog w = .ok (some (93, ⟨b, 0, none⟩, 150)) w := by kernel_rfl
theorem IsNil_PF (b : Nat) (p : Addr) (w : World) (ha : w.cell? ⟨b, 0, none⟩ = some (.pointer (some p))) : (callFunc 63 #[rv 93 b 150]).run Tryz.prog w = .ok (.value (.bool false)) w := by
  rw [x_IsNil, x_method]
  simp only [Sem.run_bind, parts_PF, Result.andThen]
  simp [ReflectliteValue.isNil, loadVar, isAgg, underlying, Tryz.underlying93, ha, Result.andThen]
theorem TElem_PF (w : World) : (callFunc 134 #[.agg #[.pointer (some ⟨4, 93, none⟩)]]).run Tryz.prog w = .ok (.value (rt 66)) w := by rw [x_TElem]; kernel_rfl
theorem Implements_F (w : World) : (callFunc 135 #[.agg #[.pointer (some ⟨4, 66, none⟩)], rt 28]).run Tryz.prog w = .ok (.value (.bool true)) w := by rw [x_Implements]; kernel_rfl
theorem TypeOf_F (v : Value) (w : World) : (callFunc 73 #[.iface 66 v]).run Tryz.prog w = .ok (.value (rt 66)) w := by rw [x_TypeOf]; kernel_rfl
theorem Assign_FF (w : World) : (callFunc 132 #[.agg #[.pointer (some ⟨4, 66, none⟩)], rt 66]).run Tryz.prog w = .ok (.value (.bool true)) w := by rw [x_AssignableTo]; kernel_rfl
theorem Assign_FJ (w : World) : (callFunc 132 #[.agg #[.pointer (some ⟨4, 66, none⟩)], rt 121]).run Tryz.prog w = .ok (.value (.bool false)) w := by rw [x_AssignableTo]; kernel_rfl
theorem ValueOf_F (e : Addr) (w : World) : (callFunc 61 #[.iface 66 (.pointer (some e))]).run Tryz.prog w = .ok (.value (rv 66 w.heap.size 150)) (w.alloc (.cells #[.pointer (some e)] 66)) := by rw [x_ValueOf]; kernel_rfl
theorem elemOf_PF (w : World) : (Rtype.elem? 93).run Tryz.prog w = .ok (some 66) w := by kernel_rfl
theorem mk_F (p : Addr) (w : World) : (ReflectliteValue.mk 66 p ReflectliteValue.flagAddr).run Tryz.prog w = .ok (.agg #[.pointer (some ⟨4, 66, none⟩), .pointer (some p), .int .u64 406]) w := by kernel_rfl
theorem VElem_PF (b t : Nat) (w : World) (ha : w.cell? ⟨b, 0, none⟩ = some (.pointer (some ⟨t, 0, none⟩))) : (callFunc 74 #[rv 93 b 150]).run Tryz.prog w = .ok (.value (rv 66 t 406)) w := by
  rw [x_VElem, x_method]
  simp only [Sem.run_bind, parts_PF, Result.andThen]
  simp [ReflectliteValue.elem, loadVar, isAgg, underlying, Tryz.underlying93, ha, Result.andThen, elemOf_PF, mk_F]
theorem partsA_F (b : Nat) (w : World) : (ReflectliteValue.parts (rv 66 b 406)).run Tryz.prog w = .ok (some (66, ⟨b, 0, none⟩, 406)) w := by kernel_rfl
theorem partsV_F (b : Nat) (w : World) : (ReflectliteValue.parts (rv 66 b 150)).run Tryz.prog w = .ok (some (66, ⟨b, 0, none⟩, 150)) w := by kernel_rfl
theorem direct_F (w : World) : (Rtype.directlyAssignable 66 66).run Tryz.prog w = .ok true w := by kernel_rfl
theorem Set_F (t b : Nat) (e : Addr) (old : Value) (w : World) (hb : w.cell? ⟨b, 0, none⟩ = some (.pointer (some e))) (ht : w.cell? ⟨t, 0, none⟩ = some old) (hf : w.frozen? ⟨t, 0, none⟩ = false) :
    (callFunc 75 #[rv 66 t 406, rv 66 b 150]).run Tryz.prog w = .ok (.value (.tuple #[])) (w.setCell ⟨t, 0, none⟩ (.pointer (some e))) := by
  rw [x_Set, x_set]
  simp only [Sem.run_bind, partsA_F, partsV_F, Result.andThen]
  simp [ReflectliteValue.flagAddr, loadVar, isAgg, underlying, Tryz.underlying66, hb, Result.andThen, direct_F, storeVar, Value.cells, storeCells, Addr.add]
  rw [run_store Tryz.prog w ⟨t, 0, none⟩ _ _ (by rfl)]
  simp [ht, hf]
theorem ValueOf_PJ (t : Nat) (w : World) : (callFunc 61 #[.iface 123 (.pointer (some ⟨t, 0, none⟩))]).run Tryz.prog w = .ok (.value (rv 123 w.heap.size 150)) (w.alloc (.cells #[.pointer (some ⟨t, 0, none⟩)] 123)) := by rw [x_ValueOf]; kernel_rfl
theorem Type_PJ (b : Nat) (w : World) : (callFunc 62 #[rv 123 b 150]).run Tryz.prog w = .ok (.value (rt 123)) w := by rw [x_Type]; kernel_rfl
theorem Kind_PJ (w : World) : (callFunc 121 #[.pointer (some ⟨4, 123, none⟩)]).run Tryz.prog w = .ok (.value (.int .u8 22)) w := by rw [x_Kind]; kernel_rfl
theorem Kind_J (w : World) : (callFunc 121 #[.pointer (some ⟨4, 121, none⟩)]).run Tryz.prog w = .ok (.value (.int .u8 22)) w := by rw [x_Kind]; kernel_rfl
theorem parts_PJ (b : Nat) (w : World) : (ReflectliteValue.parts (rv 123 b 150)).run Tryz.prog w = .ok (some (123, ⟨b, 0, none⟩, 150)) w := by kernel_rfl
theorem IsNil_PJ (b : Nat) (p : Addr) (w : World) (ha : w.cell? ⟨b, 0, none⟩ = some (.pointer (some p))) : (callFunc 63 #[rv 123 b 150]).run Tryz.prog w = .ok (.value (.bool false)) w := by
  rw [x_IsNil, x_method]
  simp only [Sem.run_bind, parts_PJ, Result.andThen]
  simp [ReflectliteValue.isNil, loadVar, isAgg, underlying, Tryz.underlying123, ha, Result.andThen]
theorem TElem_PJ (w : World) : (callFunc 134 #[.agg #[.pointer (some ⟨4, 123, none⟩)]]).run Tryz.prog w = .ok (.value (rt 121)) w := by rw [x_TElem]; kernel_rfl
theorem Implements_J (w : World) : (callFunc 135 #[.agg #[.pointer (some ⟨4, 121, none⟩)], rt 28]).run Tryz.prog w = .ok (.value (.bool true)) w := by rw [x_Implements]; kernel_rfl
theorem TypeOf_J (v : Value) (w : World) : (callFunc 73 #[.iface 121 v]).run Tryz.prog w = .ok (.value (rt 121)) w := by rw [x_TypeOf]; kernel_rfl
theorem Assign_JF (w : World) : (callFunc 132 #[.agg #[.pointer (some ⟨4, 121, none⟩)], rt 66]).run Tryz.prog w = .ok (.value (.bool false)) w := by rw [x_AssignableTo]; kernel_rfl
theorem Assign_JJ (w : World) : (callFunc 132 #[.agg #[.pointer (some ⟨4, 121, none⟩)], rt 121]).run Tryz.prog w = .ok (.value (.bool true)) w := by rw [x_AssignableTo]; kernel_rfl
theorem ValueOf_J (e : Addr) (w : World) : (callFunc 61 #[.iface 121 (.pointer (some e))]).run Tryz.prog w = .ok (.value (rv 121 w.heap.size 150)) (w.alloc (.cells #[.pointer (some e)] 121)) := by rw [x_ValueOf]; kernel_rfl
theorem elemOf_PJ (w : World) : (Rtype.elem? 123).run Tryz.prog w = .ok (some 121) w := by kernel_rfl
theorem mk_J (p : Addr) (w : World) : (ReflectliteValue.mk 121 p ReflectliteValue.flagAddr).run Tryz.prog w = .ok (.agg #[.pointer (some ⟨4, 121, none⟩), .pointer (some p), .int .u64 406]) w := by kernel_rfl
theorem VElem_PJ (b t : Nat) (w : World) (ha : w.cell? ⟨b, 0, none⟩ = some (.pointer (some ⟨t, 0, none⟩))) : (callFunc 74 #[rv 123 b 150]).run Tryz.prog w = .ok (.value (rv 121 t 406)) w := by
  rw [x_VElem, x_method]
  simp only [Sem.run_bind, parts_PJ, Result.andThen]
  simp [ReflectliteValue.elem, loadVar, isAgg, underlying, Tryz.underlying123, ha, Result.andThen, elemOf_PJ, mk_J]
theorem partsA_J (b : Nat) (w : World) : (ReflectliteValue.parts (rv 121 b 406)).run Tryz.prog w = .ok (some (121, ⟨b, 0, none⟩, 406)) w := by kernel_rfl
theorem partsV_J (b : Nat) (w : World) : (ReflectliteValue.parts (rv 121 b 150)).run Tryz.prog w = .ok (some (121, ⟨b, 0, none⟩, 150)) w := by kernel_rfl
theorem direct_J (w : World) : (Rtype.directlyAssignable 121 121).run Tryz.prog w = .ok true w := by kernel_rfl
theorem Set_J (t b : Nat) (e : Addr) (old : Value) (w : World) (hb : w.cell? ⟨b, 0, none⟩ = some (.pointer (some e))) (ht : w.cell? ⟨t, 0, none⟩ = some old) (hf : w.frozen? ⟨t, 0, none⟩ = false) :
    (callFunc 75 #[rv 121 t 406, rv 121 b 150]).run Tryz.prog w = .ok (.value (.tuple #[])) (w.setCell ⟨t, 0, none⟩ (.pointer (some e))) := by
  rw [x_Set, x_set]
  simp only [Sem.run_bind, partsA_J, partsV_J, Result.andThen]
  simp [ReflectliteValue.flagAddr, loadVar, isAgg, underlying, Tryz.underlying121, hb, Result.andThen, direct_J, storeVar, Value.cells, storeCells, Addr.add]
  rw [run_store Tryz.prog w ⟨t, 0, none⟩ _ _ (by rfl)]
  simp [ht, hf]
end Go.Proofs.YtmemgpcgjephmaaGreatDoor
