/- What errors.As asks of internal/reflectlite, at this program's types: closed facts, and the entries' laws. -/
import Derived.Test.YtmemgpcgjephmaaDoorF0
import Derived.Stop.Asserts
set_option linter.unusedVariables false
set_option linter.unusedSimpArgs false
namespace Go.Proofs.YtmemgpcgjephmaaDoor
open Go.RowKit Go.Extern.Stop Go.Stop Go.Extern
abbrev rt (t : Nat) : Value := .iface 132 (.agg #[.pointer (some ⟨4, t, none⟩)])
abbrev rv (t b fl : Nat) : Value := .agg #[.pointer (some ⟨4, t, none⟩), .pointer (some ⟨b, 0, none⟩), .int .u64 fl]
theorem x_method (z : Sem Value) (f : TypeId → Addr → Nat → Nat → Sem Value) (v : Value) :
    ReflectliteValue.method z f #[v] = (do match ← ReflectliteValue.parts v with | none => z | some (t, a, fl) => f t a fl (fl % 32)) := rfl
theorem x_set (v x : Value) : ReflectliteValue.set #[v, x] = (do
    let (some (dst, a, fl), some (src, b, _)) := (← ReflectliteValue.parts v, ← ReflectliteValue.parts x)
      | unsupported (.noEntry "extern/(internal/reflectlite.Value).Set.zeroValue")
    if fl / ReflectliteValue.flagAddr % 2 == 0 then unsupported (.noEntry "extern/(internal/reflectlite.Value).Set.unaddressable")
    let val ← loadVar src b
    if ← Rtype.directlyAssignable dst src then storeVar dst a val
    else if ← Rtype.implements dst src then
      if (← Rtype.kind src) == 20 then
        match val with
        | .nilIface => unsupported (.noEntry "extern/reflectlite: a nil value of one interface type handed on as a value of another")
        | _ => storeVar dst a val
      else storeVar dst a (.iface src val)
    else panicString ("reflectlite.Set: value of type " ++ (← Rtype.spelt src) ++ " is not assignable to type " ++ (← Rtype.spelt dst))
    pure (.tuple #[])) := rfl

theorem x_ValueOf (args : Array Value) (w : World) : (callFunc 68 args).run Tryd.prog w = (((fun args => ReflectliteValue.unpack (args.getD 0 (.tuple #[]))) args).run Tryd.prog w).andThen fun v w' => .ok (.value v) w' :=
  run_callFunc_extern (e := (fun args => ReflectliteValue.unpack (args.getD 0 (.tuple #[])))) Tryd.func68 (by kernel_rfl) (by kernel_rfl) (by kernel_rfl) (by kernel_rfl) args w
theorem x_Type (args : Array Value) (w : World) : (callFunc 69 args).run Tryd.prog w = (((ReflectliteValue.methodAny (ReflectliteValue.valueError "reflectlite.Value.Type" 0) (fun t _ _ _ => ReflectliteType.toType t)) args).run Tryd.prog w).andThen fun v w' => .ok (.value v) w' :=
  run_callFunc_extern (e := (ReflectliteValue.methodAny (ReflectliteValue.valueError "reflectlite.Value.Type" 0) (fun t _ _ _ => ReflectliteType.toType t))) Tryd.func69 (by kernel_rfl) (by kernel_rfl) (by kernel_rfl) (by kernel_rfl) args w
theorem x_IsNil (args : Array Value) (w : World) : (callFunc 70 args).run Tryd.prog w = (((ReflectliteValue.method (ReflectliteValue.valueError "reflectlite.Value.IsNil" 0) ReflectliteValue.isNil) args).run Tryd.prog w).andThen fun v w' => .ok (.value v) w' :=
  run_callFunc_extern (e := (ReflectliteValue.method (ReflectliteValue.valueError "reflectlite.Value.IsNil" 0) ReflectliteValue.isNil)) Tryd.func70 (by kernel_rfl) (by kernel_rfl) (by kernel_rfl) (by kernel_rfl) args w
theorem x_Kind (args : Array Value) (w : World) : (callFunc 100 args).run Tryd.prog w = (((ReflectliteType.abiMethod fun t => do pure (.int .u8 (← Rtype.kind t))) args).run Tryd.prog w).andThen fun v w' => .ok (.value v) w' :=
  run_callFunc_extern (e := (ReflectliteType.abiMethod fun t => do pure (.int .u8 (← Rtype.kind t)))) Tryd.func100 (by kernel_rfl) (by kernel_rfl) (by kernel_rfl) (by kernel_rfl) args w
theorem x_TElem (args : Array Value) (w : World) : (callFunc 114 args).run Tryd.prog w = (((ReflectliteType.method ReflectliteType.elem) args).run Tryd.prog w).andThen fun v w' => .ok (.value v) w' :=
  run_callFunc_extern (e := (ReflectliteType.method ReflectliteType.elem)) Tryd.func114 (by kernel_rfl) (by kernel_rfl) (by kernel_rfl) (by kernel_rfl) args w
theorem x_Implements (args : Array Value) (w : World) : (callFunc 115 args).run Tryd.prog w = (((ReflectliteType.relation "Implements" ReflectliteType.implements_) args).run Tryd.prog w).andThen fun v w' => .ok (.value v) w' :=
  run_callFunc_extern (e := (ReflectliteType.relation "Implements" ReflectliteType.implements_)) Tryd.func115 (by kernel_rfl) (by kernel_rfl) (by kernel_rfl) (by kernel_rfl) args w
theorem x_TypeOf (args : Array Value) (w : World) : (callFunc 80 args).run Tryd.prog w = ((ReflectliteType.typeOf args).run Tryd.prog w).andThen fun v w' => .ok (.value v) w' :=
  run_callFunc_extern (e := ReflectliteType.typeOf) Tryd.func80 (by kernel_rfl) (by kernel_rfl) (by kernel_rfl) (by kernel_rfl) args w
theorem x_AssignableTo (args : Array Value) (w : World) : (callFunc 112 args).run Tryd.prog w = (((ReflectliteType.relation "AssignableTo" ReflectliteType.assignableTo) args).run Tryd.prog w).andThen fun v w' => .ok (.value v) w' :=
  run_callFunc_extern (e := (ReflectliteType.relation "AssignableTo" ReflectliteType.assignableTo)) Tryd.func112 (by kernel_rfl) (by kernel_rfl) (by kernel_rfl) (by kernel_rfl) args w
theorem x_VElem (args : Array Value) (w : World) : (callFunc 81 args).run Tryd.prog w = (((ReflectliteValue.method (ReflectliteValue.valueError "reflectlite.Value.Elem" 0) ReflectliteValue.elem) args).run Tryd.prog w).andThen fun v w' => .ok (.value v) w' :=
  run_callFunc_extern (e := (ReflectliteValue.method (ReflectliteValue.valueError "reflectlite.Value.Elem" 0) ReflectliteValue.elem)) Tryd.func81 (by kernel_rfl) (by kernel_rfl) (by kernel_rfl) (by kernel_rfl) args w
theorem x_Set (args : Array Value) (w : World) : (callFunc 82 args).run Tryd.prog w = ((ReflectliteValue.set args).run Tryd.prog w).andThen fun v w' => .ok (.value v) w' :=
  run_callFunc_extern (e := ReflectliteValue.set) Tryd.func82 (by kernel_rfl) (by kernel_rfl) (by kernel_rfl) (by kernel_rfl) args w
theorem x_Comparable (args : Array Value) (w : World) : (callFunc 113 args).run Tryd.prog w = (((ReflectliteType.method fun t => do Rtype.noPackHeld "Comparable" t; pure (.bool (← typeInfo t).comparable)) args).run Tryd.prog w).andThen fun v w' => .ok (.value v) w' :=
  run_callFunc_extern (e := (ReflectliteType.method fun t => do Rtype.noPackHeld "Comparable" t; pure (.bool (← typeInfo t).comparable))) Tryd.func113 (by kernel_rfl) (by kernel_rfl) (by kernel_rfl) (by kernel_rfl) args w
theorem m_Kind (h : Value) : methB Tryd.prog 132 (.agg #[h]) "Kind" 100 (h) := fun w => by kernel_rfl
theorem m_Elem (h : Value) : methB Tryd.prog 132 (.agg #[h]) "Elem" 114 (.agg #[h]) := fun w => by kernel_rfl
theorem m_Implements (h : Value) : methB Tryd.prog 132 (.agg #[h]) "Implements" 115 (.agg #[h]) := fun w => by kernel_rfl
theorem m_AssignableTo (h : Value) : methB Tryd.prog 132 (.agg #[h]) "AssignableTo" 112 (.agg #[h]) := fun w => by kernel_rfl
theorem m_Comparable (h : Value) : methB Tryd.prog 132 (.agg #[h]) "Comparable" 113 (.agg #[h]) := fun w => by kernel_rfl
theorem ValueOf_PF (t : Nat) (w : World) : (callFunc 68 #[.iface 105 (.pointer (some ⟨t, 0, none⟩))]).run Tryd.prog w = .ok (.value (rv 105 w.heap.size 150)) (w.alloc (.cells #[.pointer (some ⟨t, 0, none⟩)] 105)) := by rw [x_ValueOf]; kernel_rfl
theorem Type_PF (b : Nat) (w : World) : (callFunc 69 #[rv 105 b 150]).run Tryd.prog w = .ok (.value (rt 105)) w := by rw [x_Type]; kernel_rfl
theorem Kind_PF (w : World) : (callFunc 100 #[.pointer (some ⟨4, 105, none⟩)]).run Tryd.prog w = .ok (.value (.int .u8 22)) w := by rw [x_Kind]; kernel_rfl
theorem Kind_F (w : World) : (callFunc 100 #[.pointer (some ⟨4, 85, none⟩)]).run Tryd.prog w = .ok (.value (.int .u8 22)) w := by rw [x_Kind]; kernel_rfl
theorem parts_PF (b : Nat) (w : World) : (ReflectliteValue.parts (rv 105 b 150)).run Tryd.prog w = .ok (some (105, ⟨b, 0, none⟩, 150)) w := by kernel_rfl
theorem IsNil_PF (b : Nat) (p : Addr) (w : World) (ha : w.cell? ⟨b, 0, none⟩ = some (.pointer (some p))) : (callFunc 70 #[rv 105 b 150]).run Tryd.prog w = .ok (.value (.bool false)) w := by
  rw [x_IsNil, x_method]
  simp only [Sem.run_bind, parts_PF, Result.andThen]
  simp [ReflectliteValue.isNil, loadVar, isAgg, underlying, Tryd.underlying105, ha, Result.andThen]
theorem TElem_PF (w : World) : (callFunc 114 #[.agg #[.pointer (some ⟨4, 105, none⟩)]]).run Tryd.prog w = .ok (.value (rt 85)) w := by rw [x_TElem]; kernel_rfl
theorem Implements_F (w : World) : (callFunc 115 #[.agg #[.pointer (some ⟨4, 85, none⟩)], rt 34]).run Tryd.prog w = .ok (.value (.bool true)) w := by rw [x_Implements]; kernel_rfl
theorem TypeOf_F (v : Value) (w : World) : (callFunc 80 #[.iface 85 v]).run Tryd.prog w = .ok (.value (rt 85)) w := by rw [x_TypeOf]; kernel_rfl
theorem Assign_FF (w : World) : (callFunc 112 #[.agg #[.pointer (some ⟨4, 85, none⟩)], rt 85]).run Tryd.prog w = .ok (.value (.bool true)) w := by rw [x_AssignableTo]; kernel_rfl
theorem Assign_FJ (w : World) : (callFunc 112 #[.agg #[.pointer (some ⟨4, 85, none⟩)], rt 106]).run Tryd.prog w = .ok (.value (.bool false)) w := by rw [x_AssignableTo]; kernel_rfl
theorem ValueOf_F (e : Addr) (w : World) : (callFunc 68 #[.iface 85 (.pointer (some e))]).run Tryd.prog w = .ok (.value (rv 85 w.heap.size 150)) (w.alloc (.cells #[.pointer (some e)] 85)) := by rw [x_ValueOf]; kernel_rfl
theorem elemOf_PF (w : World) : (Rtype.elem? 105).run Tryd.prog w = .ok (some 85) w := by kernel_rfl
theorem mk_F (p : Addr) (w : World) : (ReflectliteValue.mk 85 p ReflectliteValue.flagAddr).run Tryd.prog w = .ok (.agg #[.pointer (some ⟨4, 85, none⟩), .pointer (some p), .int .u64 406]) w := by kernel_rfl
theorem VElem_PF (b t : Nat) (w : World) (ha : w.cell? ⟨b, 0, none⟩ = some (.pointer (some ⟨t, 0, none⟩))) : (callFunc 81 #[rv 105 b 150]).run Tryd.prog w = .ok (.value (rv 85 t 406)) w := by
  rw [x_VElem, x_method]
  simp only [Sem.run_bind, parts_PF, Result.andThen]
  simp [ReflectliteValue.elem, loadVar, isAgg, underlying, Tryd.underlying105, ha, Result.andThen, elemOf_PF, mk_F]
theorem partsA_F (b : Nat) (w : World) : (ReflectliteValue.parts (rv 85 b 406)).run Tryd.prog w = .ok (some (85, ⟨b, 0, none⟩, 406)) w := by kernel_rfl
theorem partsV_F (b : Nat) (w : World) : (ReflectliteValue.parts (rv 85 b 150)).run Tryd.prog w = .ok (some (85, ⟨b, 0, none⟩, 150)) w := by kernel_rfl
theorem direct_F (w : World) : (Rtype.directlyAssignable 85 85).run Tryd.prog w = .ok true w := by kernel_rfl
theorem Set_F (t b : Nat) (e : Addr) (old : Value) (w : World) (hb : w.cell? ⟨b, 0, none⟩ = some (.pointer (some e))) (ht : w.cell? ⟨t, 0, none⟩ = some old) (hf : w.frozen? ⟨t, 0, none⟩ = false) :
    (callFunc 82 #[rv 85 t 406, rv 85 b 150]).run Tryd.prog w = .ok (.value (.tuple #[])) (w.setCell ⟨t, 0, none⟩ (.pointer (some e))) := by
  rw [x_Set, x_set]
  simp only [Sem.run_bind, partsA_F, partsV_F, Result.andThen]
  simp [ReflectliteValue.flagAddr, loadVar, isAgg, underlying, Tryd.underlying85, hb, Result.andThen, direct_F, storeVar, Value.cells, storeCells, Addr.add]
  rw [run_store Tryd.prog w ⟨t, 0, none⟩ _ _ (by rfl)]
  simp [ht, hf]
theorem ValueOf_PJ (t : Nat) (w : World) : (callFunc 68 #[.iface 108 (.pointer (some ⟨t, 0, none⟩))]).run Tryd.prog w = .ok (.value (rv 108 w.heap.size 150)) (w.alloc (.cells #[.pointer (some ⟨t, 0, none⟩)] 108)) := by rw [x_ValueOf]; kernel_rfl
theorem Type_PJ (b : Nat) (w : World) : (callFunc 69 #[rv 108 b 150]).run Tryd.prog w = .ok (.value (rt 108)) w := by rw [x_Type]; kernel_rfl
theorem Kind_PJ (w : World) : (callFunc 100 #[.pointer (some ⟨4, 108, none⟩)]).run Tryd.prog w = .ok (.value (.int .u8 22)) w := by rw [x_Kind]; kernel_rfl
theorem Kind_J (w : World) : (callFunc 100 #[.pointer (some ⟨4, 106, none⟩)]).run Tryd.prog w = .ok (.value (.int .u8 22)) w := by rw [x_Kind]; kernel_rfl
theorem parts_PJ (b : Nat) (w : World) : (ReflectliteValue.parts (rv 108 b 150)).run Tryd.prog w = .ok (some (108, ⟨b, 0, none⟩, 150)) w := by kernel_rfl
theorem IsNil_PJ (b : Nat) (p : Addr) (w : World) (ha : w.cell? ⟨b, 0, none⟩ = some (.pointer (some p))) : (callFunc 70 #[rv 108 b 150]).run Tryd.prog w = .ok (.value (.bool false)) w := by
  rw [x_IsNil, x_method]
  simp only [Sem.run_bind, parts_PJ, Result.andThen]
  simp [ReflectliteValue.isNil, loadVar, isAgg, underlying, Tryd.underlying108, ha, Result.andThen]
theorem TElem_PJ (w : World) : (callFunc 114 #[.agg #[.pointer (some ⟨4, 108, none⟩)]]).run Tryd.prog w = .ok (.value (rt 106)) w := by rw [x_TElem]; kernel_rfl
theorem Implements_J (w : World) : (callFunc 115 #[.agg #[.pointer (some ⟨4, 106, none⟩)], rt 34]).run Tryd.prog w = .ok (.value (.bool true)) w := by rw [x_Implements]; kernel_rfl
theorem TypeOf_J (v : Value) (w : World) : (callFunc 80 #[.iface 106 v]).run Tryd.prog w = .ok (.value (rt 106)) w := by rw [x_TypeOf]; kernel_rfl
theorem Assign_JF (w : World) : (callFunc 112 #[.agg #[.pointer (some ⟨4, 106, none⟩)], rt 85]).run Tryd.prog w = .ok (.value (.bool false)) w := by rw [x_AssignableTo]; kernel_rfl
theorem Assign_JJ (w : World) : (callFunc 112 #[.agg #[.pointer (some ⟨4, 106, none⟩)], rt 106]).run Tryd.prog w = .ok (.value (.bool true)) w := by rw [x_AssignableTo]; kernel_rfl
theorem ValueOf_J (e : Addr) (w : World) : (callFunc 68 #[.iface 106 (.pointer (some e))]).run Tryd.prog w = .ok (.value (rv 106 w.heap.size 150)) (w.alloc (.cells #[.pointer (some e)] 106)) := by rw [x_ValueOf]; kernel_rfl
theorem elemOf_PJ (w : World) : (Rtype.elem? 108).run Tryd.prog w = .ok (some 106) w := by kernel_rfl
theorem mk_J (p : Addr) (w : World) : (ReflectliteValue.mk 106 p ReflectliteValue.flagAddr).run Tryd.prog w = .ok (.agg #[.pointer (some ⟨4, 106, none⟩), .pointer (some p), .int .u64 406]) w := by kernel_rfl
theorem VElem_PJ (b t : Nat) (w : World) (ha : w.cell? ⟨b, 0, none⟩ = some (.pointer (some ⟨t, 0, none⟩))) : (callFunc 81 #[rv 108 b 150]).run Tryd.prog w = .ok (.value (rv 106 t 406)) w := by
  rw [x_VElem, x_method]
  simp only [Sem.run_bind, parts_PJ, Result.andThen]
  simp [ReflectliteValue.elem, loadVar, isAgg, underlying, Tryd.underlying108, ha, Result.andThen, elemOf_PJ, mk_J]
theorem partsA_J (b : Nat) (w : World) : (ReflectliteValue.parts (rv 106 b 406)).run Tryd.prog w = .ok (some (106, ⟨b, 0, none⟩, 406)) w := by kernel_rfl
theorem partsV_J (b : Nat) (w : World) : (ReflectliteValue.parts (rv 106 b 150)).run Tryd.prog w = .ok (some (106, ⟨b, 0, none⟩, 150)) w := by kernel_rfl
theorem direct_J (w : World) : (Rtype.directlyAssignable 106 106).run Tryd.prog w = .ok true w := by kernel_rfl
theorem Set_J (t b : Nat) (e : Addr) (old : Value) (w : World) (hb : w.cell? ⟨b, 0, none⟩ = some (.pointer (some e))) (ht : w.cell? ⟨t, 0, none⟩ = some old) (hf : w.frozen? ⟨t, 0, none⟩ = false) :
    (callFunc 82 #[rv 106 t 406, rv 106 b 150]).run Tryd.prog w = .ok (.value (.tuple #[])) (w.setCell ⟨t, 0, none⟩ (.pointer (some e))) := by
  rw [x_Set, x_set]
  simp only [Sem.run_bind, partsA_J, partsV_J, Result.andThen]
  simp [ReflectliteValue.flagAddr, loadVar, isAgg, underlying, Tryd.underlying106, hb, Result.andThen, direct_J, storeVar, Value.cells, storeCells, Addr.add]
  rw [run_store Tryd.prog w ⟨t, 0, none⟩ _ _ (by rfl)]
  simp [ht, hf]
end Go.Proofs.YtmemgpcgjephmaaDoor
