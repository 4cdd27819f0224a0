/- errors.As over chains of faults: at a number, and at a fault. -/
import Derived.Test.YtlnljnldpnhjiaaDoorErrs
import Derived.Below
namespace Go.Proofs.YtlnljnldpnhjiaaDoor.Hand
theorem grow_set' (W : World) (p : Addr) (v : Value) : W.grownBy (W.setCell p v) (some p.block) :=
  ⟨rfl, rfl, rfl, by rw [World.size_setCell]; exact Nat.le_refl _, fun k _ hk => Go.RowKit.Below.heap_setCell W p v k (fun e => hk (by rw [e]))⟩
theorem cell_lt {w : World} {p : Addr} {v : Value} (h : w.cell? p = some v) : p.block < w.heap.size := by
  rcases Nat.lt_or_ge p.block w.heap.size with h1 | h1
  · exact h1
  · simp [World.cell?, Array.getElem?_eq_none h1] at h
open Go.RowKit Go.Extern.Stop Go.Stop Go.Extern Go.Proofs.YtlnljnldpnhjiaaDoorW.PrintWords Go.Proofs.YtlnljnldpnhjiaaDoorW.PrintLast
set_option linter.unusedVariables false
set_option linter.unusedSimpArgs false
theorem rlm' (z : Sem Value) (f : TypeId → Addr → Nat → Nat → Sem Value) (v : Value) :
    ReflectliteValue.method z f #[v] = (do match ← ReflectliteValue.parts v with | none => z | some (t, a, fl) => f t a fl (fl % 32)) := rfl
theorem rls' (v x : Value) : ReflectliteValue.set #[v, x] = (do
    let (some (dst, a, fl), some (src, b, _)) := (← ReflectliteValue.parts v, ← ReflectliteValue.parts x)
      | unsupported (.noEntry "extern/(internal/reflectlite.Value).Set.zeroValue")
    if fl / ReflectliteValue.flagAddr % 2 == 0 then unsupported (.noEntry "extern/(internal/reflectlite.Value).Set.unaddressable")
    let val ← loadVar src b
    if ← Rtype.directlyAssignable dst src then storeVar dst a val
    else if ← Rtype.implements dst src then
      if (← Rtype.kind src) == 20 then
        match val with
        | .nilIface => unsupported (.noEntry "extern/reflectlite: a nil value of one interface type handed on as a value of another")
        | _ => storeVar dst a val
      else storeVar dst a (.iface src val)
    else panicString ("reflectlite.Set: value of type " ++ (← Rtype.spelt src) ++ " is not assignable to type " ++ (← Rtype.spelt dst))
    pure (.tuple #[])) := rfl
def ecUnpack : Array Value → Sem Value := fun args => ReflectliteValue.unpack (args.getD 0 (.tuple #[]))
def ecType : Array Value → Sem Value := ReflectliteValue.methodAny (ReflectliteValue.valueError "reflectlite.Value.Type" 0) fun t _ _ _ => ReflectliteType.toType t
def ecIsNil : Array Value → Sem Value := ReflectliteValue.method (ReflectliteValue.valueError "reflectlite.Value.IsNil" 0) ReflectliteValue.isNil
def ecKind : Array Value → Sem Value := ReflectliteType.abiMethod fun t => do pure (.int .u8 (← Rtype.kind t))
def ecElem : Array Value → Sem Value := ReflectliteType.method ReflectliteType.elem
def ecImpl : Array Value → Sem Value := ReflectliteType.relation "Implements" ReflectliteType.implements_
def ecAssign : Array Value → Sem Value := ReflectliteType.relation "AssignableTo" ReflectliteType.assignableTo
def ecElemV : Array Value → Sem Value := ReflectliteValue.method (ReflectliteValue.valueError "reflectlite.Value.Elem" 0) ReflectliteValue.elem
theorem ec_assignEE (w : World) : (ecAssign #[.agg #[.pointer (some ⟨1, 22, none⟩)], .iface 84 (.agg #[.pointer (some ⟨1, 22, none⟩)])]).run Tryd.prog w = .ok (.bool true) w := by kernel_rfl
theorem ec_assignEF (w : World) : (ecAssign #[.agg #[.pointer (some ⟨1, 22, none⟩)], .iface 84 (.agg #[.pointer (some ⟨1, 43, none⟩)])]).run Tryd.prog w = .ok (.bool false) w := by kernel_rfl
theorem ec_assignFE (w : World) : (ecAssign #[.agg #[.pointer (some ⟨1, 43, none⟩)], .iface 84 (.agg #[.pointer (some ⟨1, 22, none⟩)])]).run Tryd.prog w = .ok (.bool false) w := by kernel_rfl
theorem ec_assignFF (w : World) : (ecAssign #[.agg #[.pointer (some ⟨1, 43, none⟩)], .iface 84 (.agg #[.pointer (some ⟨1, 43, none⟩)])]).run Tryd.prog w = .ok (.bool true) w := by kernel_rfl
theorem ec_assignSE (w : World) : (ecAssign #[.agg #[.pointer (some ⟨1, 66, none⟩)], .iface 84 (.agg #[.pointer (some ⟨1, 22, none⟩)])]).run Tryd.prog w = .ok (.bool false) w := by kernel_rfl
theorem ec_assignSF (w : World) : (ecAssign #[.agg #[.pointer (some ⟨1, 66, none⟩)], .iface 84 (.agg #[.pointer (some ⟨1, 43, none⟩)])]).run Tryd.prog w = .ok (.bool false) w := by kernel_rfl
theorem ec_valueOfTE (t : Addr) (w : World) : (ecUnpack #[.iface 55 (.pointer (some t))]).run Tryd.prog w = .ok (.agg #[.pointer (some ⟨1, 55, none⟩), .pointer (some ⟨w.heap.size, 0, none⟩), .int .u64 150]) (w.alloc (.cells #[.pointer (some t)] 55)) := by kernel_rfl
theorem ec_typeTE (a : Addr) (w : World) : (ecType #[.agg #[.pointer (some ⟨1, 55, none⟩), .pointer (some a), .int .u64 150]]).run Tryd.prog w = .ok (.iface 84 (.agg #[.pointer (some ⟨1, 55, none⟩)])) w := by kernel_rfl
theorem ec_kindTE (w : World) : (ecKind #[.pointer (some ⟨1, 55, none⟩)]).run Tryd.prog w = .ok (.int .u8 22) w := by kernel_rfl
theorem ec_kindE (w : World) : (ecKind #[.pointer (some ⟨1, 22, none⟩)]).run Tryd.prog w = .ok (.int .u8 2) w := by kernel_rfl
theorem ec_partsTE (a : Addr) (w : World) : (ReflectliteValue.parts (.agg #[.pointer (some ⟨1, 55, none⟩), .pointer (some a), .int .u64 150])).run Tryd.prog w = .ok (some (55, a, 150)) w := by kernel_rfl
theorem ec_isNilTE (a p : Addr) (W : World) (ha : W.cell? a = some (.pointer (some p))) : (ecIsNil #[.agg #[.pointer (some ⟨1, 55, none⟩), .pointer (some a), .int .u64 150]]).run Tryd.prog W = .ok (.bool false) W := by
  rw [ecIsNil, rlm']
  simp only [Sem.run_bind, ec_partsTE, Result.andThen]
  simp [ReflectliteValue.isNil, loadVar, isAgg, underlying, Tryd.underlying55, ha, Result.andThen]
theorem ec_elemTE (w : World) : (ecElem #[.agg #[.pointer (some ⟨1, 55, none⟩)]]).run Tryd.prog w = .ok (.iface 84 (.agg #[.pointer (some ⟨1, 22, none⟩)])) w := by kernel_rfl
theorem ec_implE (w : World) : (ecImpl #[.agg #[.pointer (some ⟨1, 22, none⟩)], .iface 84 (.agg #[.pointer (some ⟨1, 26, none⟩)])]).run Tryd.prog w = .ok (.bool true) w := by kernel_rfl
theorem ec_valueOfE (x : Int) (w : World) : (ecUnpack #[.iface 22 (.int .i64 x)]).run Tryd.prog w = .ok (.agg #[.pointer (some ⟨1, 22, none⟩), .pointer (some ⟨w.heap.size, 0, none⟩), .int .u64 130]) (w.alloc (.cells #[.int .i64 x] 22)) := by kernel_rfl
theorem ec_elemOfE (w : World) : (Rtype.elem? 55).run Tryd.prog w = .ok (some 22) w := by kernel_rfl
theorem ec_mkE (p : Addr) (w : World) : (ReflectliteValue.mk 22 p ReflectliteValue.flagAddr).run Tryd.prog w = .ok (.agg #[.pointer (some ⟨1, 22, none⟩), .pointer (some p), .int .u64 386]) w := by kernel_rfl
theorem ec_elemVE (a p : Addr) (W : World) (ha : W.cell? a = some (.pointer (some p))) : (ecElemV #[.agg #[.pointer (some ⟨1, 55, none⟩), .pointer (some a), .int .u64 150]]).run Tryd.prog W = .ok (.agg #[.pointer (some ⟨1, 22, none⟩), .pointer (some p), .int .u64 386]) W := by
  rw [ecElemV, rlm']
  simp only [Sem.run_bind, ec_partsTE, Result.andThen]
  simp [ReflectliteValue.elem, loadVar, isAgg, underlying, Tryd.underlying55, ha, Result.andThen, ec_elemOfE, ec_mkE]
theorem ec_partsAE (a : Addr) (w : World) : (ReflectliteValue.parts (.agg #[.pointer (some ⟨1, 22, none⟩), .pointer (some a), .int .u64 386])).run Tryd.prog w = .ok (some (22, a, 386)) w := by kernel_rfl
theorem ec_partsE (a : Addr) (w : World) : (ReflectliteValue.parts (.agg #[.pointer (some ⟨1, 22, none⟩), .pointer (some a), .int .u64 130])).run Tryd.prog w = .ok (some (22, a, 130)) w := by kernel_rfl
theorem ec_directE (w : World) : (Rtype.directlyAssignable 22 22).run Tryd.prog w = .ok true w := by kernel_rfl
theorem ec_setE (ta b : Addr) (x : Int) (old : Value) (W : World) (hb : W.cell? b = some (.int .i64 x)) (ht : W.cell? ta = some old) (hf : W.frozen? ta = false) :
    (ReflectliteValue.set #[.agg #[.pointer (some ⟨1, 22, none⟩), .pointer (some ta), .int .u64 386], .agg #[.pointer (some ⟨1, 22, none⟩), .pointer (some b), .int .u64 130]]).run Tryd.prog W = .ok (.tuple #[]) (W.setCell ta (.int .i64 x)) := by
  rw [rls']
  simp only [Sem.run_bind, ec_partsAE, ec_partsE, Result.andThen]
  simp [ReflectliteValue.flagAddr, loadVar, isAgg, underlying, Tryd.underlying22, hb, Result.andThen, ec_directE, storeVar, Value.cells, storeCells, Addr.add]
  rw [run_store Tryd.prog W ta _ _ (by rfl)]
  simp [ht, hf]
theorem ec_valueOfTF (t : Addr) (w : World) : (ecUnpack #[.iface 56 (.pointer (some t))]).run Tryd.prog w = .ok (.agg #[.pointer (some ⟨1, 56, none⟩), .pointer (some ⟨w.heap.size, 0, none⟩), .int .u64 150]) (w.alloc (.cells #[.pointer (some t)] 56)) := by kernel_rfl
theorem ec_typeTF (a : Addr) (w : World) : (ecType #[.agg #[.pointer (some ⟨1, 56, none⟩), .pointer (some a), .int .u64 150]]).run Tryd.prog w = .ok (.iface 84 (.agg #[.pointer (some ⟨1, 56, none⟩)])) w := by kernel_rfl
theorem ec_kindTF (w : World) : (ecKind #[.pointer (some ⟨1, 56, none⟩)]).run Tryd.prog w = .ok (.int .u8 22) w := by kernel_rfl
theorem ec_kindF (w : World) : (ecKind #[.pointer (some ⟨1, 43, none⟩)]).run Tryd.prog w = .ok (.int .u8 22) w := by kernel_rfl
theorem ec_partsTF (a : Addr) (w : World) : (ReflectliteValue.parts (.agg #[.pointer (some ⟨1, 56, none⟩), .pointer (some a), .int .u64 150])).run Tryd.prog w = .ok (some (56, a, 150)) w := by kernel_rfl
theorem ec_isNilTF (a p : Addr) (W : World) (ha : W.cell? a = some (.pointer (some p))) : (ecIsNil #[.agg #[.pointer (some ⟨1, 56, none⟩), .pointer (some a), .int .u64 150]]).run Tryd.prog W = .ok (.bool false) W := by
  rw [ecIsNil, rlm']
  simp only [Sem.run_bind, ec_partsTF, Result.andThen]
  simp [ReflectliteValue.isNil, loadVar, isAgg, underlying, Tryd.underlying56, ha, Result.andThen]
theorem ec_elemTF (w : World) : (ecElem #[.agg #[.pointer (some ⟨1, 56, none⟩)]]).run Tryd.prog w = .ok (.iface 84 (.agg #[.pointer (some ⟨1, 43, none⟩)])) w := by kernel_rfl
theorem ec_implF (w : World) : (ecImpl #[.agg #[.pointer (some ⟨1, 43, none⟩)], .iface 84 (.agg #[.pointer (some ⟨1, 26, none⟩)])]).run Tryd.prog w = .ok (.bool true) w := by kernel_rfl
theorem ec_valueOfF (x : Addr) (w : World) : (ecUnpack #[.iface 43 (.pointer (some x))]).run Tryd.prog w = .ok (.agg #[.pointer (some ⟨1, 43, none⟩), .pointer (some ⟨w.heap.size, 0, none⟩), .int .u64 150]) (w.alloc (.cells #[.pointer (some x)] 43)) := by kernel_rfl
theorem ec_elemOfF (w : World) : (Rtype.elem? 56).run Tryd.prog w = .ok (some 43) w := by kernel_rfl
theorem ec_mkF (p : Addr) (w : World) : (ReflectliteValue.mk 43 p ReflectliteValue.flagAddr).run Tryd.prog w = .ok (.agg #[.pointer (some ⟨1, 43, none⟩), .pointer (some p), .int .u64 406]) w := by kernel_rfl
theorem ec_elemVF (a p : Addr) (W : World) (ha : W.cell? a = some (.pointer (some p))) : (ecElemV #[.agg #[.pointer (some ⟨1, 56, none⟩), .pointer (some a), .int .u64 150]]).run Tryd.prog W = .ok (.agg #[.pointer (some ⟨1, 43, none⟩), .pointer (some p), .int .u64 406]) W := by
  rw [ecElemV, rlm']
  simp only [Sem.run_bind, ec_partsTF, Result.andThen]
  simp [ReflectliteValue.elem, loadVar, isAgg, underlying, Tryd.underlying56, ha, Result.andThen, ec_elemOfF, ec_mkF]
theorem ec_partsAF (a : Addr) (w : World) : (ReflectliteValue.parts (.agg #[.pointer (some ⟨1, 43, none⟩), .pointer (some a), .int .u64 406])).run Tryd.prog w = .ok (some (43, a, 406)) w := by kernel_rfl
theorem ec_partsF (a : Addr) (w : World) : (ReflectliteValue.parts (.agg #[.pointer (some ⟨1, 43, none⟩), .pointer (some a), .int .u64 150])).run Tryd.prog w = .ok (some (43, a, 150)) w := by kernel_rfl
theorem ec_directF (w : World) : (Rtype.directlyAssignable 43 43).run Tryd.prog w = .ok true w := by kernel_rfl
theorem ec_setF (ta b : Addr) (x : Addr) (old : Value) (W : World) (hb : W.cell? b = some (.pointer (some x))) (ht : W.cell? ta = some old) (hf : W.frozen? ta = false) :
    (ReflectliteValue.set #[.agg #[.pointer (some ⟨1, 43, none⟩), .pointer (some ta), .int .u64 406], .agg #[.pointer (some ⟨1, 43, none⟩), .pointer (some b), .int .u64 150]]).run Tryd.prog W = .ok (.tuple #[]) (W.setCell ta (.pointer (some x))) := by
  rw [rls']
  simp only [Sem.run_bind, ec_partsAF, ec_partsF, Result.andThen]
  simp [ReflectliteValue.flagAddr, loadVar, isAgg, underlying, Tryd.underlying43, hb, Result.andThen, ec_directF, storeVar, Value.cells, storeCells, Addr.add]
  rw [run_store Tryd.prog W ta _ _ (by rfl)]
  simp [ht, hf]
theorem ec_hT : ∀ (args : Array Value) (w : World), Sem.run Tryd.prog (callFunc 39 args) w = (Sem.run Tryd.prog (ReflectliteType.typeOf args) w).andThen fun v w' => Result.ok (Next.value v) w' := @run_callFunc_extern Tryd.prog 39 _ ReflectliteType.typeOf Tryd.func39 (by kernel_rfl) (by kernel_rfl) (by kernel_rfl) (by kernel_rfl)
theorem ec_hV : ∀ (args : Array Value) (w : World), Sem.run Tryd.prog (callFunc 42 args) w = (Sem.run Tryd.prog (ecUnpack args) w).andThen fun v w' => Result.ok (Next.value v) w' := @run_callFunc_extern Tryd.prog 42 _ ecUnpack Tryd.func42 (by kernel_rfl) (by kernel_rfl) (by kernel_rfl) (by kernel_rfl)
theorem ec_hTy : ∀ (args : Array Value) (w : World), Sem.run Tryd.prog (callFunc 43 args) w = (Sem.run Tryd.prog (ecType args) w).andThen fun v w' => Result.ok (Next.value v) w' := @run_callFunc_extern Tryd.prog 43 _ ecType Tryd.func43 (by kernel_rfl) (by kernel_rfl) (by kernel_rfl) (by kernel_rfl)
theorem ec_hN : ∀ (args : Array Value) (w : World), Sem.run Tryd.prog (callFunc 44 args) w = (Sem.run Tryd.prog (ecIsNil args) w).andThen fun v w' => Result.ok (Next.value v) w' := @run_callFunc_extern Tryd.prog 44 _ ecIsNil Tryd.func44 (by kernel_rfl) (by kernel_rfl) (by kernel_rfl) (by kernel_rfl)
theorem ec_hK : ∀ (args : Array Value) (w : World), Sem.run Tryd.prog (callFunc 62 args) w = (Sem.run Tryd.prog (ecKind args) w).andThen fun v w' => Result.ok (Next.value v) w' := @run_callFunc_extern Tryd.prog 62 _ ecKind Tryd.func62 (by kernel_rfl) (by kernel_rfl) (by kernel_rfl) (by kernel_rfl)
theorem ec_hEl : ∀ (args : Array Value) (w : World), Sem.run Tryd.prog (callFunc 72 args) w = (Sem.run Tryd.prog (ecElem args) w).andThen fun v w' => Result.ok (Next.value v) w' := @run_callFunc_extern Tryd.prog 72 _ ecElem Tryd.func72 (by kernel_rfl) (by kernel_rfl) (by kernel_rfl) (by kernel_rfl)
theorem ec_hIm : ∀ (args : Array Value) (w : World), Sem.run Tryd.prog (callFunc 73 args) w = (Sem.run Tryd.prog (ecImpl args) w).andThen fun v w' => Result.ok (Next.value v) w' := @run_callFunc_extern Tryd.prog 73 _ ecImpl Tryd.func73 (by kernel_rfl) (by kernel_rfl) (by kernel_rfl) (by kernel_rfl)
theorem ec_hAs : ∀ (args : Array Value) (w : World), Sem.run Tryd.prog (callFunc 70 args) w = (Sem.run Tryd.prog (ecAssign args) w).andThen fun v w' => Result.ok (Next.value v) w' := @run_callFunc_extern Tryd.prog 70 _ ecAssign Tryd.func70 (by kernel_rfl) (by kernel_rfl) (by kernel_rfl) (by kernel_rfl)
theorem ec_hEV : ∀ (args : Array Value) (w : World), Sem.run Tryd.prog (callFunc 46 args) w = (Sem.run Tryd.prog (ecElemV args) w).andThen fun v w' => Result.ok (Next.value v) w' := @run_callFunc_extern Tryd.prog 46 _ ecElemV Tryd.func46 (by kernel_rfl) (by kernel_rfl) (by kernel_rfl) (by kernel_rfl)
theorem ec_hS : ∀ (args : Array Value) (w : World), Sem.run Tryd.prog (callFunc 47 args) w = (Sem.run Tryd.prog (ReflectliteValue.set args) w).andThen fun v w' => Result.ok (Next.value v) w' := @run_callFunc_extern Tryd.prog 47 _ ReflectliteValue.set Tryd.func47 (by kernel_rfl) (by kernel_rfl) (by kernel_rfl) (by kernel_rfl)
set_option maxRecDepth 1000000 in
set_option maxHeartbeats 4000000 in
/-- errors.as at a number's target: what is wrapped is the number d. -/
theorem asE_hit (w : World) (d : Int) (a t : Nat) (old : Value) (E : Value) (l : List Int) (h : EC w (.code d) E l) (ha : w.cell? ⟨a, 0, none⟩ = some (.pointer (some ⟨t, 0, none⟩))) (ht : w.heap[t]? = some (.cells #[old] 22 (0, 0))) :
    Calls Tryd.prog 45 #[E, .iface 55 (.pointer (some ⟨t, 0, none⟩)), .agg #[.pointer (some ⟨1, 55, none⟩), .pointer (some ⟨a, 0, none⟩), .int .u64 150], .iface 84 (.agg #[.pointer (some ⟨1, 22, none⟩)])] w fun e w' => e = .returned (.bool true) ∧ w'.heap[t]? = some (.cells #[.int .i64 d] 22 (0, 0)) ∧ w.grownBy w' (some t) := by
  have htl : t < w.heap.size := blk_lt ht
  have hb0 := blk_new w (.cells #[.pointer (some ⟨1, 55, none⟩), .pointer (some ⟨a, 0, none⟩), .int .u64 150] 75)
  have H1 := Lib.hid (EC.below h (below_alloc (Below.refl _ _) (.cells #[.pointer (some ⟨1, 55, none⟩), .pointer (some ⟨a, 0, none⟩), .int .u64 150] 75)))
  have ha1 := World.cell?_alloc_lt w (.cells #[.pointer (some ⟨1, 55, none⟩), .pointer (some ⟨a, 0, none⟩), .int .u64 150] 75) ⟨a, 0, none⟩ (cell_lt ha)
  rw [ha] at ha1
  have ht1 := blk_alloc ht (.cells #[.pointer (some ⟨1, 55, none⟩), .pointer (some ⟨a, 0, none⟩), .int .u64 150] 75)
  have G1 := Lib.hid (World.grownBy_alloc w (.cells #[.pointer (some ⟨1, 55, none⟩), .pointer (some ⟨a, 0, none⟩), .int .u64 150] 75) (some t))
  clear h ha ht
  have hT := ec_hT
  have hV := ec_hV
  have hAs := ec_hAs
  have hEV := ec_hEV
  have hS := ec_hS
  have tE := ec_typeOfE
  have tF := ec_typeOfF
  have tS := ec_typeOfS
  have mA := ec_mAssignableTo
  have aE := ec_noAsE
  have aF := ec_noAsF
  have aS := ec_noAsS
  have uE := ec_noUnE
  have uS := ec_noUnS
  have uF := ec_hasUnF
  have vE := ec_noUnsE
  have vS := ec_noUnsS
  have mU := ec_mUnwrap
  have asE := ec_assignEE
  have asF := ec_assignFE
  have asS := ec_assignSE
  have vo := ec_valueOfE
  go_enter Tryd.func45, Tryd.ntmps45
  go_upto_region 1 with (fail)
  generalize w.alloc _ = w1 at hb0 H1 ha1 ht1 G1 ⊢
  generalize w.heap.size = bx at hb0 ⊢
  have k0 : w1.cell? ⟨bx, 0, none⟩ = _ := blk_cell hb0 0
  have k1 : w1.cell? ⟨bx, 1, none⟩ = _ := blk_cell hb0 1
  have k2 : w1.cell? ⟨bx, 2, none⟩ = _ := blk_cell hb0 2
  have HT1 := Lib.hid ht1
  clear hb0 ht1 htl
  go_wp2_with fail
  go_loopg [0] l.length (fun gk E' wl => ∃ l' : List Int, w1 = wl ∧ l'.length = gk ∧ Hid (EC w1 (.code d) E' l'))
  case atStart => exact ⟨l, rfl, rfl, H1⟩
  case round =>
    obtain ⟨l', rfl, rfl, hc'⟩ := hrel
    rcases l' with _ | ⟨p, l'⟩
    · obtain rfl := hc'.out
      have ev := ec_elemVE ⟨a, 0, none⟩ ⟨t, 0, none⟩ w1 ha1
      have st := ec_setE ⟨t, 0, none⟩ ⟨w1.heap.size, 0, none⟩ d old (w1.alloc (.cells #[.int .i64 d] 22)) (by rw [World.cell?_alloc_at _ _ _ _ (by simp)]; rfl) (blk_cell (blk_alloc HT1.out _) 0) (blk_frozen (blk_alloc HT1.out _) 0)
      have G2 := Lib.hid (blk_put (blk_alloc HT1.out (.cells #[.int .i64 d] 22)) 0 (.int .i64 d) rfl)
      have G3 := Lib.hid ((G1.out.trans (World.grownBy_alloc w1 (.cells #[.int .i64 d] 22) (some t))).trans (grow_set' (w1.alloc (.cells #[.int .i64 d] 22)) ⟨t, 0, none⟩ (.int .i64 d)))
      dsimp only [Leaf.val]
      go_wp2
      go_ret
      exact ⟨rfl, G2.out, G3.out⟩
    · obtain ⟨b, E1, rfl, hb, h1⟩ := hc'.out
      have HC := Lib.hid h1
      have HU := Lib.hid (unwrap_walk b p E1 w1 hb h1.held)
      obtain ⟨u1, v1, rfl⟩ := h1.held
      clear h1 hb
      go_wp2_with (go_at_call 23; (with_reducible refine HU.out.mono ?_); rintro e w' ⟨rfl, rfl⟩)
      go_roundg l'.length
      case measure => simp
      case rel => exact ⟨l', rfl, rfl, HC⟩
end Go.Proofs.YtlnljnldpnhjiaaDoor.Hand
