/- What errors.As asks of internal/reflectlite, at this program's types: closed facts, and the entries' laws. -/
import Derived.Test.YtdlmcgflgdmjgaaDoorF0
import Derived.Stop.Asserts
set_option linter.unusedVariables false
set_option linter.unusedSimpArgs false
namespace Go.Proofs.YtdlmcgflgdmjgaaDoor
open Go.RowKit Go.Extern.Stop Go.Stop Go.Extern
abbrev rt (t : Nat) : Value := .iface 144 (.agg #[.pointer (some ⟨3, t, none⟩)])
abbrev rv (t b fl : Nat) : Value := .agg #[.pointer (some ⟨3, t, none⟩), .pointer (some ⟨b, 0, none⟩), .int .u64 fl]
theorem x_method (z : Sem Value) (f : TypeId → Addr → Nat → Nat → Sem Value) (v : Value) :
    ReflectliteValue.method z f #[v] = (do match ← ReflectliteValue.parts v with | none => z | some (t, a, fl) => f t a fl (fl % 32)) := rfl
theorem x_set (v x : Value) : ReflectliteValue.set #[v, x] = (do
    let (some (dst, a, fl), some (src, b, _)) := (← ReflectliteValue.parts v, ← ReflectliteValue.parts x)
      | unsupported (.noEntry "extern/(internal/reflectlite.Value).Set.zeroValue")
    if fl / ReflectliteValue.flagAddr % 2 == 0 then unsupported (.noEntry "extern/(internal/reflectlite.Value).Set.unaddressable")
    let val ← loadVar src b
    if ← Rtype.directlyAssignable dst src then storeVar dst a val
    else if ← Rtype.implements dst src then
      if (← Rtype.kind src) == 20 then
        match val with
        | .nilIface => unsupported (.noEntry "extern/reflectlite: a nil value of one interface type handed on as a value of another")
        | _ => storeVar dst a val
      else storeVar dst a (.iface src val)
    else panicString ("reflectlite.Set: value of type " ++ (← Rtype.spelt src) ++ " is not assignable to type " ++ (← Rtype.spelt dst))
    pure (.tuple #[])) := rfl

theorem x_ValueOf (args : Array Value) (w : World) : (callFunc 76 args).run Tryd.prog w = (((fun args => ReflectliteValue.unpack (args.getD 0 (.tuple #[]))) args).run Tryd.prog w).andThen fun v w' => .ok (.value v) w' :=
  run_callFunc_extern (e := (fun args => ReflectliteValue.unpack (args.getD 0 (.tuple #[])))) Tryd.func76 (by kernel_rfl) (by kernel_rfl) (by kernel_rfl) (by kernel_rfl) args w
theorem x_Type (args : Array Value) (w : World) : (callFunc 77 args).run Tryd.prog w = (((ReflectliteValue.methodAny (ReflectliteValue.valueError "reflectlite.Value.Type" 0) (fun t _ _ _ => ReflectliteType.toType t)) args).run Tryd.prog w).andThen fun v w' => .ok (.value v) w' :=
  run_callFunc_extern (e := (ReflectliteValue.methodAny (ReflectliteValue.valueError "reflectlite.Value.Type" 0) (fun t _ _ _ => ReflectliteType.toType t))) Tryd.func77 (by kernel_rfl) (by kernel_rfl) (by kernel_rfl) (by kernel_rfl) args w
theorem x_IsNil (args : Array Value) (w : World) : (callFunc 78 args).run Tryd.prog w = (((ReflectliteValue.method (ReflectliteValue.valueError "reflectlite.Value.IsNil" 0) ReflectliteValue.isNil) args).run Tryd.prog w).andThen fun v w' => .ok (.value v) w' :=
  run_callFunc_extern (e := (ReflectliteValue.method (ReflectliteValue.valueError "reflectlite.Value.IsNil" 0) ReflectliteValue.isNil)) Tryd.func78 (by kernel_rfl) (by kernel_rfl) (by kernel_rfl) (by kernel_rfl) args w
theorem x_Kind (args : Array Value) (w : World) : (callFunc 101 args).run Tryd.prog w = (((ReflectliteType.abiMethod fun t => do pure (.int .u8 (← Rtype.kind t))) args).run Tryd.prog w).andThen fun v w' => .ok (.value v) w' :=
  run_callFunc_extern (e := (ReflectliteType.abiMethod fun t => do pure (.int .u8 (← Rtype.kind t)))) Tryd.func101 (by kernel_rfl) (by kernel_rfl) (by kernel_rfl) (by kernel_rfl) args w
theorem x_TElem (args : Array Value) (w : World) : (callFunc 116 args).run Tryd.prog w = (((ReflectliteType.method ReflectliteType.elem) args).run Tryd.prog w).andThen fun v w' => .ok (.value v) w' :=
  run_callFunc_extern (e := (ReflectliteType.method ReflectliteType.elem)) Tryd.func116 (by kernel_rfl) (by kernel_rfl) (by kernel_rfl) (by kernel_rfl) args w
theorem x_Implements (args : Array Value) (w : World) : (callFunc 117 args).run Tryd.prog w = (((ReflectliteType.relation "Implements" ReflectliteType.implements_) args).run Tryd.prog w).andThen fun v w' => .ok (.value v) w' :=
  run_callFunc_extern (e := (ReflectliteType.relation "Implements" ReflectliteType.implements_)) Tryd.func117 (by kernel_rfl) (by kernel_rfl) (by kernel_rfl) (by kernel_rfl) args w
theorem x_TypeOf (args : Array Value) (w : World) : (callFunc 63 args).run Tryd.prog w = ((ReflectliteType.typeOf args).run Tryd.prog w).andThen fun v w' => .ok (.value v) w' :=
  run_callFunc_extern (e := ReflectliteType.typeOf) Tryd.func63 (by kernel_rfl) (by kernel_rfl) (by kernel_rfl) (by kernel_rfl) args w
theorem x_AssignableTo (args : Array Value) (w : World) : (callFunc 114 args).run Tryd.prog w = (((ReflectliteType.relation "AssignableTo" ReflectliteType.assignableTo) args).run Tryd.prog w).andThen fun v w' => .ok (.value v) w' :=
  run_callFunc_extern (e := (ReflectliteType.relation "AssignableTo" ReflectliteType.assignableTo)) Tryd.func114 (by kernel_rfl) (by kernel_rfl) (by kernel_rfl) (by kernel_rfl) args w
theorem x_VElem (args : Array Value) (w : World) : (callFunc 84 args).run Tryd.prog w = (((ReflectliteValue.method (ReflectliteValue.valueError "reflectlite.Value.Elem" 0) ReflectliteValue.elem) args).run Tryd.prog w).andThen fun v w' => .ok (.value v) w' :=
  run_callFunc_extern (e := (ReflectliteValue.method (ReflectliteValue.valueError "reflectlite.Value.Elem" 0) ReflectliteValue.elem)) Tryd.func84 (by kernel_rfl) (by kernel_rfl) (by kernel_rfl) (by kernel_rfl) args w
theorem x_Set (args : Array Value) (w : World) : (callFunc 85 args).run Tryd.prog w = ((ReflectliteValue.set args).run Tryd.prog w).andThen fun v w' => .ok (.value v) w' :=
  run_callFunc_extern (e := ReflectliteValue.set) Tryd.func85 (by kernel_rfl) (by kernel_rfl) (by kernel_rfl) (by kernel_rfl) args w
theorem x_Comparable (args : Array Value) (w : World) : (callFunc 115 args).run Tryd.prog w = (((ReflectliteType.method fun t => do Rtype.noPackHeld "Comparable" t; pure (.bool (← typeInfo t).comparable)) args).run Tryd.prog w).andThen fun v w' => .ok (.value v) w' :=
  run_callFunc_extern (e := (ReflectliteType.method fun t => do Rtype.noPackHeld "Comparable" t; pure (.bool (← typeInfo t).comparable))) Tryd.func115 (by kernel_rfl) (by kernel_rfl) (by kernel_rfl) (by kernel_rfl) args w
theorem m_Kind (h : Value) : methB Tryd.prog 144 (.agg #[h]) "Kind" 101 (h) := fun w => by kernel_rfl
theorem m_Elem (h : Value) : methB Tryd.prog 144 (.agg #[h]) "Elem" 116 (.agg #[h]) := fun w => by kernel_rfl
theorem m_Implements (h : Value) : methB Tryd.prog 144 (.agg #[h]) "Implements" 117 (.agg #[h]) := fun w => by kernel_rfl
theorem m_AssignableTo (h : Value) : methB Tryd.prog 144 (.agg #[h]) "AssignableTo" 114 (.agg #[h]) := fun w => by kernel_rfl
theorem m_Comparable (h : Value) : methB Tryd.prog 144 (.agg #[h]) "Comparable" 115 (.agg #[h]) := fun w => by kernel_rfl
theorem ValueOf_PF (t : Nat) (w : World) : (callFunc 76 #[.iface 115 (.pointer (some ⟨t, 0, none⟩))]).run Tryd.prog w = .ok (.value (rv 115 w.heap.size 150)) (w.alloc (.cells #[.pointer (some ⟨t, 0, none⟩)] 115)) := by rw [x_ValueOf]; kernel_rfl
theorem Type_PF (b : Nat) (w : World) : (callFunc 77 #[rv 115 b 150]).run Tryd.prog w = .ok (.value (rt 115)) w := by rw [x_Type]; kernel_rfl
theorem Kind_PF (w : World) : (callFunc 101 #[.pointer (some ⟨3, 115, none⟩)]).run Tryd.prog w = .ok (.value (.int .u8 22)) w := by rw [x_Kind]; kernel_rfl
theorem Kind_F (w : World) : (callFunc 101 #[.pointer (some ⟨3, 85, none⟩)]).run Tryd.prog w = .ok (.value (.int .u8 22)) w := by rw [x_Kind]; kernel_rfl
theorem parts_PF (b : Nat) (w : World) : (ReflectliteValue.parts (rv 115 b 150)).run Tryd.prog w = .ok (some (115, ⟨b, 0, none⟩, 150)) w := by kernel_rfl
theorem IsNil_PF (b : Nat) (p : Addr) (w : World) (ha : w.cell? ⟨b, 0, none⟩ = some (.pointer (some p))) : (callFunc 78 #[rv 115 b 150]).run Tryd.prog w = .ok (.value (.bool false)) w := by
  rw [x_IsNil, x_method]
  simp only [Sem.run_bind, parts_PF, Result.andThen]
  simp [ReflectliteValue.isNil, loadVar, isAgg, underlying, Tryd.underlying115, ha, Result.andThen]
theorem TElem_PF (w : World) : (callFunc 116 #[.agg #[.pointer (some ⟨3, 115, none⟩)]]).run Tryd.prog w = .ok (.value (rt 85)) w := by rw [x_TElem]; kernel_rfl
theorem Implements_F (w : World) : (callFunc 117 #[.agg #[.pointer (some ⟨3, 85, none⟩)], rt 29]).run Tryd.prog w = .ok (.value (.bool true)) w := by rw [x_Implements]; kernel_rfl
theorem TypeOf_F (v : Value) (w : World) : (callFunc 63 #[.iface 85 v]).run Tryd.prog w = .ok (.value (rt 85)) w := by rw [x_TypeOf]; kernel_rfl
theorem Assign_FF (w : World) : (callFunc 114 #[.agg #[.pointer (some ⟨3, 85, none⟩)], rt 85]).run Tryd.prog w = .ok (.value (.bool true)) w := by rw [x_AssignableTo]; kernel_rfl
theorem Assign_FJ (w : World) : (callFunc 114 #[.agg #[.pointer (some ⟨3, 85, none⟩)], rt 89]).run Tryd.prog w = .ok (.value (.bool false)) w := by rw [x_AssignableTo]; kernel_rfl
theorem Assign_FM (w : World) : (callFunc 114 #[.agg #[.pointer (some ⟨3, 85, none⟩)], rt 95]).run Tryd.prog w = .ok (.value (.bool false)) w := by rw [x_AssignableTo]; kernel_rfl
theorem ValueOf_F (e : Addr) (w : World) : (callFunc 76 #[.iface 85 (.pointer (some e))]).run Tryd.prog w = .ok (.value (rv 85 w.heap.size 150)) (w.alloc (.cells #[.pointer (some e)] 85)) := by rw [x_ValueOf]; kernel_rfl
theorem elemOf_PF (w : World) : (Rtype.elem? 115).run Tryd.prog w = .ok (some 85) w := by kernel_rfl
theorem mk_F (p : Addr) (w : World) : (ReflectliteValue.mk 85 p ReflectliteValue.flagAddr).run Tryd.prog w = .ok (.agg #[.pointer (some ⟨3, 85, none⟩), .pointer (some p), .int .u64 406]) w := by kernel_rfl
theorem VElem_PF (b t : Nat) (w : World) (ha : w.cell? ⟨b, 0, none⟩ = some (.pointer (some ⟨t, 0, none⟩))) : (callFunc 84 #[rv 115 b 150]).run Tryd.prog w = .ok (.value (rv 85 t 406)) w := by
  rw [x_VElem, x_method]
  simp only [Sem.run_bind, parts_PF, Result.andThen]
  simp [ReflectliteValue.elem, loadVar, isAgg, underlying, Tryd.underlying115, ha, Result.andThen, elemOf_PF, mk_F]
theorem partsA_F (b : Nat) (w : World) : (ReflectliteValue.parts (rv 85 b 406)).run Tryd.prog w = .ok (some (85, ⟨b, 0, none⟩, 406)) w := by kernel_rfl
theorem partsV_F (b : Nat) (w : World) : (ReflectliteValue.parts (rv 85 b 150)).run Tryd.prog w = .ok (some (85, ⟨b, 0, none⟩, 150)) w := by kernel_rfl
theorem direct_F (w : World) : (Rtype.directlyAssignable 85 85).run Tryd.prog w = .ok true w := by kernel_rfl
theorem Set_F (t b : Nat) (e : Addr) (old : Value) (w : World) (hb : w.cell? ⟨b, 0, none⟩ = some (.pointer (some e))) (ht : w.cell? ⟨t, 0, none⟩ = some old) (hf : w.frozen? ⟨t, 0, none⟩ = false) :
    (callFunc 85 #[rv 85 t 406, rv 85 b 150]).run Tryd.prog w = .ok (.value (.tuple #[])) (w.setCell ⟨t, 0, none⟩ (.pointer (some e))) := by
  rw [x_Set, x_set]
  simp only [Sem.run_bind, partsA_F, partsV_F, Result.andThen]
  simp [ReflectliteValue.flagAddr, loadVar, isAgg, underlying, Tryd.underlying85, hb, Result.andThen, direct_F, storeVar, Value.cells, storeCells, Addr.add]
  rw [run_store Tryd.prog w ⟨t, 0, none⟩ _ _ (by rfl)]
  simp [ht, hf]
theorem ValueOf_PJ (t : Nat) (w : World) : (callFunc 76 #[.iface 114 (.pointer (some ⟨t, 0, none⟩))]).run Tryd.prog w = .ok (.value (rv 114 w.heap.size 150)) (w.alloc (.cells #[.pointer (some ⟨t, 0, none⟩)] 114)) := by rw [x_ValueOf]; kernel_rfl
theorem Type_PJ (b : Nat) (w : World) : (callFunc 77 #[rv 114 b 150]).run Tryd.prog w = .ok (.value (rt 114)) w := by rw [x_Type]; kernel_rfl
theorem Kind_PJ (w : World) : (callFunc 101 #[.pointer (some ⟨3, 114, none⟩)]).run Tryd.prog w = .ok (.value (.int .u8 22)) w := by rw [x_Kind]; kernel_rfl
theorem Kind_J (w : World) : (callFunc 101 #[.pointer (some ⟨3, 89, none⟩)]).run Tryd.prog w = .ok (.value (.int .u8 22)) w := by rw [x_Kind]; kernel_rfl
theorem parts_PJ (b : Nat) (w : World) : (ReflectliteValue.parts (rv 114 b 150)).run Tryd.prog w = .ok (some (114, ⟨b, 0, none⟩, 150)) w := by kernel_rfl
theorem IsNil_PJ (b : Nat) (p : Addr) (w : World) (ha : w.cell? ⟨b, 0, none⟩ = some (.pointer (some p))) : (callFunc 78 #[rv 114 b 150]).run Tryd.prog w = .ok (.value (.bool false)) w := by
  rw [x_IsNil, x_method]
  simp only [Sem.run_bind, parts_PJ, Result.andThen]
  simp [ReflectliteValue.isNil, loadVar, isAgg, underlying, Tryd.underlying114, ha, Result.andThen]
theorem TElem_PJ (w : World) : (callFunc 116 #[.agg #[.pointer (some ⟨3, 114, none⟩)]]).run Tryd.prog w = .ok (.value (rt 89)) w := by rw [x_TElem]; kernel_rfl
theorem Implements_J (w : World) : (callFunc 117 #[.agg #[.pointer (some ⟨3, 89, none⟩)], rt 29]).run Tryd.prog w = .ok (.value (.bool true)) w := by rw [x_Implements]; kernel_rfl
theorem TypeOf_J (v : Value) (w : World) : (callFunc 63 #[.iface 89 v]).run Tryd.prog w = .ok (.value (rt 89)) w := by rw [x_TypeOf]; kernel_rfl
theorem Assign_JF (w : World) : (callFunc 114 #[.agg #[.pointer (some ⟨3, 89, none⟩)], rt 85]).run Tryd.prog w = .ok (.value (.bool false)) w := by rw [x_AssignableTo]; kernel_rfl
theorem Assign_JJ (w : World) : (callFunc 114 #[.agg #[.pointer (some ⟨3, 89, none⟩)], rt 89]).run Tryd.prog w = .ok (.value (.bool true)) w := by rw [x_AssignableTo]; kernel_rfl
theorem Assign_JM (w : World) : (callFunc 114 #[.agg #[.pointer (some ⟨3, 89, none⟩)], rt 95]).run Tryd.prog w = .ok (.value (.bool false)) w := by rw [x_AssignableTo]; kernel_rfl
theorem ValueOf_J (e : Addr) (w : World) : (callFunc 76 #[.iface 89 (.pointer (some e))]).run Tryd.prog w = .ok (.value (rv 89 w.heap.size 150)) (w.alloc (.cells #[.pointer (some e)] 89)) := by rw [x_ValueOf]; kernel_rfl
theorem elemOf_PJ (w : World) : (Rtype.elem? 114).run Tryd.prog w = .ok (some 89) w := by kernel_rfl
theorem mk_J (p : Addr) (w : World) : (ReflectliteValue.mk 89 p ReflectliteValue.flagAddr).run Tryd.prog w = .ok (.agg #[.pointer (some ⟨3, 89, none⟩), .pointer (some p), .int .u64 406]) w := by kernel_rfl
theorem VElem_PJ (b t : Nat) (w : World) (ha : w.cell? ⟨b, 0, none⟩ = some (.pointer (some ⟨t, 0, none⟩))) : (callFunc 84 #[rv 114 b 150]).run Tryd.prog w = .ok (.value (rv 89 t 406)) w := by
  rw [x_VElem, x_method]
  simp only [Sem.run_bind, parts_PJ, Result.andThen]
  simp [ReflectliteValue.elem, loadVar, isAgg, underlying, Tryd.underlying114, ha, Result.andThen, elemOf_PJ, mk_J]
theorem partsA_J (b : Nat) (w : World) : (ReflectliteValue.parts (rv 89 b 406)).run Tryd.prog w = .ok (some (89, ⟨b, 0, none⟩, 406)) w := by kernel_rfl
theorem partsV_J (b : Nat) (w : World) : (ReflectliteValue.parts (rv 89 b 150)).run Tryd.prog w = .ok (some (89, ⟨b, 0, none⟩, 150)) w := by kernel_rfl
theorem direct_J (w : World) : (Rtype.directlyAssignable 89 89).run Tryd.prog w = .ok true w := by kernel_rfl
theorem Set_J (t b : Nat) (e : Addr) (old : Value) (w : World) (hb : w.cell? ⟨b, 0, none⟩ = some (.pointer (some e))) (ht : w.cell? ⟨t, 0, none⟩ = some old) (hf : w.frozen? ⟨t, 0, none⟩ = false) :
    (callFunc 85 #[rv 89 t 406, rv 89 b 150]).run Tryd.prog w = .ok (.value (.tuple #[])) (w.setCell ⟨t, 0, none⟩ (.pointer (some e))) := by
  rw [x_Set, x_set]
  simp only [Sem.run_bind, partsA_J, partsV_J, Result.andThen]
  simp [ReflectliteValue.flagAddr, loadVar, isAgg, underlying, Tryd.underlying89, hb, Result.andThen, direct_J, storeVar, Value.cells, storeCells, Addr.add]
  rw [run_store Tryd.prog w ⟨t, 0, none⟩ _ _ (by rfl)]
  simp [ht, hf]
theorem ValueOf_PM (t : Nat) (w : World) : (callFunc 76 #[.iface 178 (.pointer (some ⟨t, 0, none⟩))]).run Tryd.prog w = .ok (.value (rv 178 w.heap.size 150)) (w.alloc (.cells #[.pointer (some ⟨t, 0, none⟩)] 178)) := by rw [x_ValueOf]; kernel_rfl
theorem Type_PM (b : Nat) (w : World) : (callFunc 77 #[rv 178 b 150]).run Tryd.prog w = .ok (.value (rt 178)) w := by rw [x_Type]; kernel_rfl
theorem Kind_PM (w : World) : (callFunc 101 #[.pointer (some ⟨3, 178, none⟩)]).run Tryd.prog w = .ok (.value (.int .u8 22)) w := by rw [x_Kind]; kernel_rfl
theorem Kind_M (w : World) : (callFunc 101 #[.pointer (some ⟨3, 95, none⟩)]).run Tryd.prog w = .ok (.value (.int .u8 25)) w := by rw [x_Kind]; kernel_rfl
theorem parts_PM (b : Nat) (w : World) : (ReflectliteValue.parts (rv 178 b 150)).run Tryd.prog w = .ok (some (178, ⟨b, 0, none⟩, 150)) w := by kernel_rfl
theorem IsNil_PM (b : Nat) (p : Addr) (w : World) (ha : w.cell? ⟨b, 0, none⟩ = some (.pointer (some p))) : (callFunc 78 #[rv 178 b 150]).run Tryd.prog w = .ok (.value (.bool false)) w := by
  rw [x_IsNil, x_method]
  simp only [Sem.run_bind, parts_PM, Result.andThen]
  simp [ReflectliteValue.isNil, loadVar, isAgg, underlying, Tryd.underlying178, ha, Result.andThen]
theorem TElem_PM (w : World) : (callFunc 116 #[.agg #[.pointer (some ⟨3, 178, none⟩)]]).run Tryd.prog w = .ok (.value (rt 95)) w := by rw [x_TElem]; kernel_rfl
theorem Implements_M (w : World) : (callFunc 117 #[.agg #[.pointer (some ⟨3, 95, none⟩)], rt 29]).run Tryd.prog w = .ok (.value (.bool true)) w := by rw [x_Implements]; kernel_rfl
theorem TypeOf_M (v : Value) (w : World) : (callFunc 63 #[.iface 95 v]).run Tryd.prog w = .ok (.value (rt 95)) w := by rw [x_TypeOf]; kernel_rfl
theorem Assign_MF (w : World) : (callFunc 114 #[.agg #[.pointer (some ⟨3, 95, none⟩)], rt 85]).run Tryd.prog w = .ok (.value (.bool false)) w := by rw [x_AssignableTo]; kernel_rfl
theorem Assign_MJ (w : World) : (callFunc 114 #[.agg #[.pointer (some ⟨3, 95, none⟩)], rt 89]).run Tryd.prog w = .ok (.value (.bool false)) w := by rw [x_AssignableTo]; kernel_rfl
theorem Assign_MM (w : World) : (callFunc 114 #[.agg #[.pointer (some ⟨3, 95, none⟩)], rt 95]).run Tryd.prog w = .ok (.value (.bool true)) w := by rw [x_AssignableTo]; kernel_rfl
theorem ValueOf_M (e : Int) (w : World) : (callFunc 76 #[.iface 95 (.agg #[.int .i64 e])]).run Tryd.prog w = .ok (.value (rv 95 w.heap.size 153)) (w.alloc (.cells #[.int .i64 e] 95)) := by rw [x_ValueOf]; kernel_rfl
theorem elemOf_PM (w : World) : (Rtype.elem? 178).run Tryd.prog w = .ok (some 95) w := by kernel_rfl
theorem mk_M (p : Addr) (w : World) : (ReflectliteValue.mk 95 p ReflectliteValue.flagAddr).run Tryd.prog w = .ok (.agg #[.pointer (some ⟨3, 95, none⟩), .pointer (some p), .int .u64 409]) w := by kernel_rfl
theorem VElem_PM (b t : Nat) (w : World) (ha : w.cell? ⟨b, 0, none⟩ = some (.pointer (some ⟨t, 0, none⟩))) : (callFunc 84 #[rv 178 b 150]).run Tryd.prog w = .ok (.value (rv 95 t 409)) w := by
  rw [x_VElem, x_method]
  simp only [Sem.run_bind, parts_PM, Result.andThen]
  simp [ReflectliteValue.elem, loadVar, isAgg, underlying, Tryd.underlying178, ha, Result.andThen, elemOf_PM, mk_M]
theorem partsA_M (b : Nat) (w : World) : (ReflectliteValue.parts (rv 95 b 409)).run Tryd.prog w = .ok (some (95, ⟨b, 0, none⟩, 409)) w := by kernel_rfl
theorem partsV_M (b : Nat) (w : World) : (ReflectliteValue.parts (rv 95 b 153)).run Tryd.prog w = .ok (some (95, ⟨b, 0, none⟩, 153)) w := by kernel_rfl
theorem direct_M (w : World) : (Rtype.directlyAssignable 95 95).run Tryd.prog w = .ok true w := by kernel_rfl
theorem Set_M (t b : Nat) (e : Int) (old : Value) (w : World) (hb : w.cell? ⟨b, 0, none⟩ = some (.int .i64 e)) (ht : w.cell? ⟨t, 0, none⟩ = some old) (hf : w.frozen? ⟨t, 0, none⟩ = false) :
    (callFunc 85 #[rv 95 t 409, rv 95 b 153]).run Tryd.prog w = .ok (.value (.tuple #[])) (w.setCell ⟨t, 0, none⟩ (.int .i64 e)) := by
  rw [x_Set, x_set]
  simp only [Sem.run_bind, partsA_M, partsV_M, Result.andThen]
  simp [ReflectliteValue.flagAddr, loadVar, isAgg, underlying, Tryd.underlying95, loadCells, loadCellsFrom, load, Addr.add, hb, Sem.run, Result.andThen, direct_M, storeVar, Value.cells, storeCells, Addr.add]
  rw [run_store Tryd.prog w ⟨t, 0, none⟩ _ _ (by rfl)]
  simp [ht, hf]
theorem Comparable_M (w : World) : (callFunc 115 #[.agg #[.pointer (some ⟨3, 95, none⟩)]]).run Tryd.prog w = .ok (.value (.bool true)) w := by rw [x_Comparable]; kernel_rfl
end Go.Proofs.YtdlmcgflgdmjgaaDoor
