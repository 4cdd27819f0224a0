/- Errors that are numbers or texts, wrapped in faults: errors.Is and errors.As over such chains. 225: how many types the program has, and 100. -/
import Derived.Test.YtlnljnldpnhjiaaDoorHand0
import Derived.LaidEql
import Derived.Stop.Asserts
import Derived.RowKitTokens
namespace Go
section
variable {P : Program} (w : World)
theorem run_equalIn_iface_int' (d : Nat) {ti tn : TypeId} {ms : Array (String × TypeId)} {i : TypeInfo} {k : IntKind} (a b : Int)
    (hi : P.underlying ti = some (.interface ms)) (hn : P.underlying tn = some (.int k)) (hinfo : P.info? tn = some i) (hcomp : i.comparable = true) :
    (Op.equalIn (d + 2) ti (.iface tn (.int k a)) (.iface tn (.int k b))).run P w = .ok (a == b) w := by
  simp [Op.equalIn, run_underlying hi, run_underlying hn, typeInfo, hinfo, hcomp]
/-- Two errors of one integer type are equal as their numbers are. -/
theorem run_eql_iface_int' {ti tn : TypeId} {ms : Array (String × TypeId)} {i : TypeInfo} {k : IntKind} (a b : Int)
    (hi : P.underlying ti = some (.interface ms)) (hn : P.underlying tn = some (.int k)) (hinfo : P.info? tn = some i) (hcomp : i.comparable = true) :
    (binOp .eql ti (.iface tn (.int k a)) (.iface tn (.int k b))).run P w = .ok (.bool (a == b)) w := by
  simp only [binOp]
  simp [Op.equal, Op.maxDepth, run_equalIn_iface_int' w 9998 a b hi hn hinfo hcomp]
end
end Go
namespace Go.Proofs.YtlnljnldpnhjiaaDoor.Hand
open Go.RowKit Go.Extern.Stop Go.Stop Go.Extern Go.Proofs.YtlnljnldpnhjiaaDoorW.PrintWords Go.Proofs.YtlnljnldpnhjiaaDoorW.PrintLast
set_option linter.unusedVariables false
set_option linter.unusedSimpArgs false
/-- What is wrapped: an error that is a number, or a text's. -/
inductive Leaf where
  | code (c : Int)
  | text (a : Nat)
def Leaf.val : Leaf → Value
  | .code c => .iface 22 (.int .i64 c)
  | .text a => .iface 66 (.pointer (some ⟨a, 0, none⟩))
/-- An error in the world: its places, from outside in, and what is wrapped. -/
def EC (W : World) (f : Leaf) : Value → List Int → Prop
  | E, [] => E = f.val
  | E, p :: l => ∃ b E', E = .iface 43 (.pointer (some ⟨b, 0, none⟩)) ∧ W.heap[b]? = some (.cells #[.int .i64 p, E'] 58 (0, 0)) ∧ EC W f E' l
theorem EC.keep {W W' : World} {f : Leaf} : ∀ {l : List Int} {E : Value}, EC W f E l → (∀ k, k < W.heap.size → W'.heap[k]? = W.heap[k]?) → EC W' f E l
  | [], _, h, _ => h
  | _ :: _, _, ⟨b, E', h1, h2, h3⟩, hk => ⟨b, E', h1, (hk b (blk_lt h2)).trans h2, h3.keep hk⟩
theorem EC.below {W W' : World} {f : Leaf} {l : List Int} {E : Value} (h : EC W f E l) (hb : Below W.heap.size W W') : EC W' f E l := h.keep hb.block
theorem EC.held {W : World} {f : Leaf} : ∀ {l : List Int} {E : Value}, EC W f E l → ∃ u v, E = .iface u v
  | [], _, h => by subst h; cases f <;> exact ⟨_, _, rfl⟩
  | _ :: _, _, ⟨_, _, h1, _⟩ => ⟨_, _, h1⟩
/-- Is it an error of this number? -/
def Leaf.is : Leaf → Int → Bool
  | .code d, c => d == c
  | .text _, _ => false

/-! ### Closed facts -/
theorem ec_typeOfE (v : Value) (w : World) : (ReflectliteType.typeOf #[.iface 22 v]).run Tryd.prog w = .ok (.iface 84 (.agg #[.pointer (some ⟨1, 22, none⟩)])) w := by kernel_rfl
theorem ec_typeOfF (v : Value) (w : World) : (ReflectliteType.typeOf #[.iface 43 v]).run Tryd.prog w = .ok (.iface 84 (.agg #[.pointer (some ⟨1, 43, none⟩)])) w := by kernel_rfl
theorem ec_typeOfS (v : Value) (w : World) : (ReflectliteType.typeOf #[.iface 66 v]).run Tryd.prog w = .ok (.iface 84 (.agg #[.pointer (some ⟨1, 66, none⟩)])) w := by kernel_rfl
/-- (rtype).Comparable, as the model has it. -/
def ecCmp : Array Value → Sem Value := ReflectliteType.method fun t => do Rtype.noPackHeld "Comparable" t; pure (.bool (← typeInfo t).comparable)
theorem ec_comparableE (w : World) : (ecCmp #[.agg #[.pointer (some ⟨1, 22, none⟩)]]).run Tryd.prog w = .ok (.bool true) w := by kernel_rfl
theorem ec_mComparable (v : Value) (w : World) : (Go.method 225 84 v "Comparable").run Tryd.prog w = .ok (71, v) w := by kernel_rfl
theorem ec_mKind (h : Value) (w : World) : (Go.method 225 84 (.agg #[h]) "Kind").run Tryd.prog w = .ok (62, h) w := by kernel_rfl
theorem ec_mElem (h : Value) (w : World) : (Go.method 225 84 (.agg #[h]) "Elem").run Tryd.prog w = .ok (72, .agg #[h]) w := by kernel_rfl
theorem ec_mImplements (h : Value) (w : World) : (Go.method 225 84 (.agg #[h]) "Implements").run Tryd.prog w = .ok (73, .agg #[h]) w := by kernel_rfl
theorem ec_mAssignableTo (h : Value) (w : World) : (Go.method 225 84 (.agg #[h]) "AssignableTo").run Tryd.prog w = .ok (70, .agg #[h]) w := by kernel_rfl
theorem ec_mUnwrap (v : Value) (w : World) : (Go.method 225 43 v "Unwrap").run Tryd.prog w = .ok (23, v) w := by kernel_rfl
theorem ec_noIsE (v : Value) (xT : TypeId) (w : World) : (Instr.typeAssert (.iface 22 v) xT 86 true).run Tryd.prog w = .ok (.tuple #[.nilIface, .bool false]) w := run_typeAssert_lacksB Tryd.underlying86 (by kernel_rfl) (by kernel_rfl) v xT w
theorem ec_noIsF (v : Value) (xT : TypeId) (w : World) : (Instr.typeAssert (.iface 43 v) xT 86 true).run Tryd.prog w = .ok (.tuple #[.nilIface, .bool false]) w := run_typeAssert_lacksB Tryd.underlying86 (by kernel_rfl) (by kernel_rfl) v xT w
theorem ec_noIsS (v : Value) (xT : TypeId) (w : World) : (Instr.typeAssert (.iface 66 v) xT 86 true).run Tryd.prog w = .ok (.tuple #[.nilIface, .bool false]) w := run_typeAssert_lacksB Tryd.underlying86 (by kernel_rfl) (by kernel_rfl) v xT w
theorem ec_noAsE (v : Value) (xT : TypeId) (w : World) : (Instr.typeAssert (.iface 22 v) xT 93 true).run Tryd.prog w = .ok (.tuple #[.nilIface, .bool false]) w := run_typeAssert_lacksB Tryd.underlying93 (by kernel_rfl) (by kernel_rfl) v xT w
theorem ec_noAsF (v : Value) (xT : TypeId) (w : World) : (Instr.typeAssert (.iface 43 v) xT 93 true).run Tryd.prog w = .ok (.tuple #[.nilIface, .bool false]) w := run_typeAssert_lacksB Tryd.underlying93 (by kernel_rfl) (by kernel_rfl) v xT w
theorem ec_noAsS (v : Value) (xT : TypeId) (w : World) : (Instr.typeAssert (.iface 66 v) xT 93 true).run Tryd.prog w = .ok (.tuple #[.nilIface, .bool false]) w := run_typeAssert_lacksB Tryd.underlying93 (by kernel_rfl) (by kernel_rfl) v xT w
theorem ec_noUnE (v : Value) (xT : TypeId) (w : World) : (Instr.typeAssert (.iface 22 v) xT 64 true).run Tryd.prog w = .ok (.tuple #[.nilIface, .bool false]) w := run_typeAssert_lacksB Tryd.underlying64 (by kernel_rfl) (by kernel_rfl) v xT w
theorem ec_noUnS (v : Value) (xT : TypeId) (w : World) : (Instr.typeAssert (.iface 66 v) xT 64 true).run Tryd.prog w = .ok (.tuple #[.nilIface, .bool false]) w := run_typeAssert_lacksB Tryd.underlying64 (by kernel_rfl) (by kernel_rfl) v xT w
theorem ec_hasUnF (v : Value) (xT : TypeId) (w : World) : (Instr.typeAssert (.iface 43 v) xT 64 true).run Tryd.prog w = .ok (.tuple #[.iface 43 v, .bool true]) w := run_typeAssert_hasB Tryd.underlying64 (by kernel_rfl) v xT w
theorem ec_noUnsE (v : Value) (xT : TypeId) (w : World) : (Instr.typeAssert (.iface 22 v) xT 88 true).run Tryd.prog w = .ok (.tuple #[.nilIface, .bool false]) w := run_typeAssert_lacksB Tryd.underlying88 (by kernel_rfl) (by kernel_rfl) v xT w
theorem ec_noUnsS (v : Value) (xT : TypeId) (w : World) : (Instr.typeAssert (.iface 66 v) xT 88 true).run Tryd.prog w = .ok (.tuple #[.nilIface, .bool false]) w := run_typeAssert_lacksB Tryd.underlying88 (by kernel_rfl) (by kernel_rfl) v xT w
theorem ec_comp : (Tryd.prog.info? 22).map (·.comparable) = some true := by kernel_rfl

/-- (*Fault).Unwrap. -/
theorem unwrap_walk (b : Nat) (p : Int) (E : Value) (w : World) (h : w.heap[b]? = some (.cells #[.int .i64 p, E] 58 (0, 0))) (hE : ∃ u v, E = .iface u v) :
    Calls Tryd.prog 23 #[.pointer (some ⟨b, 0, none⟩)] w fun e w' => e = .returned E ∧ w = w' := by
  have c1 : w.cell? ⟨b, 1, none⟩ = some E := blk_cell h 1
  obtain ⟨u, v, rfl⟩ := hE
  go_enter Tryd.func23, Tryd.ntmps23
  go_wp2
  go_ret
  exact ⟨rfl, rfl⟩

set_option maxRecDepth 1000000 in
set_option maxHeartbeats 4000000 in
/-- errors.is. -/
theorem is_chain (W : World) (f : Leaf) (c : Int) (E : Value) (l : List Int) (h : EC W f E l) :
    Calls Tryd.prog 40 #[E, .iface 22 (.int .i64 c), .bool true] W fun e w' => e = .returned (.bool (f.is c)) ∧ W = w' := by
  obtain ⟨i, hi, hcmp⟩ := Option.map_eq_some_iff.1 ec_comp
  obtain ⟨R, hR⟩ : ∃ R, f.is c = R := ⟨_, rfl⟩
  rw [hR]
  have HR := Lib.hid hR
  have H := Lib.hid h
  clear h hR
  have nE := ec_noIsE
  have nF := ec_noIsF
  have nS := ec_noIsS
  have uE := ec_noUnE
  have uS := ec_noUnS
  have uF := ec_hasUnF
  have vE := ec_noUnsE
  have vS := ec_noUnsS
  have mU := ec_mUnwrap
  go_enter Tryd.func40, Tryd.ntmps40
  go_wp2
  go_loopg [0] l.length (fun gk E' wl => ∃ l' : List Int, W = wl ∧ l'.length = gk ∧ Hid (EC W f E' l'))
  case atStart => exact ⟨l, rfl, rfl, H⟩
  case round =>
    obtain ⟨l', rfl, rfl, hc'⟩ := hrel
    rcases l' with _ | ⟨p, l'⟩
    · obtain rfl := hc'.out
      cases f with
      | code d =>
        have heq := run_eql_iface_int' (P := Tryd.prog) W d c Tryd.underlying26 Tryd.underlying22 hi hcmp
        have hRd : R = (d == c) := by rw [← HR.out]; rfl
        subst hRd
        by_cases hdc : d = c
        · subst hdc
          have hb : (d == d) = true := by simp
          dsimp only [Leaf.val]
          go_wp2
          go_ret
          exact ⟨by rw [hb]; rfl, rfl⟩
        · have hb : (d == c) = false := by simpa using hdc
          dsimp only [Leaf.val]
          go_wp2
          go_ret
          exact ⟨by rw [hb]; rfl, rfl⟩
      | text a =>
        have hty := run_eql_iface_types (P := Tryd.prog) 66 22 (.pointer (some ⟨a, 0, none⟩)) (.int .i64 c) Tryd.underlying26 (by decide) W
        have hRd : R = false := by rw [← HR.out]; rfl
        subst hRd
        dsimp only [Leaf.val]
        go_wp2
        go_ret
        exact ⟨rfl, rfl⟩
    · obtain ⟨b, E1, rfl, hb, h1⟩ := hc'.out
      have hty := run_eql_iface_types (P := Tryd.prog) 43 22 (.pointer (some ⟨b, 0, none⟩)) (.int .i64 c) Tryd.underlying26 (by decide) W
      have HC := Lib.hid h1
      have HU := Lib.hid (unwrap_walk b p E1 W hb h1.held)
      obtain ⟨u1, v1, rfl⟩ := h1.held
      clear h1 hb
      go_wp2_with (go_at_call 23; (with_reducible refine HU.out.mono ?_); rintro e w' ⟨rfl, rfl⟩)
      go_roundg l'.length
      case measure => simp
      case rel => exact ⟨l', rfl, rfl, HC⟩

set_option maxRecDepth 1000000 in
set_option maxHeartbeats 4000000 in
/-- errors.Is of an error that is one. -/
theorem errorsIs_walk (W : World) (f : Leaf) (c : Int) (E : Value) (l : List Int) (h : EC W f E l) :
    Calls Tryd.prog 18 #[E, .iface 22 (.int .i64 c)] W fun e w' => e = .returned (.bool (f.is c)) ∧ W = w' := by
  have H := Lib.hid (is_chain W f c E l h)
  have hT := @run_callFunc_extern Tryd.prog 39 _ ReflectliteType.typeOf Tryd.func39 (by kernel_rfl) (by kernel_rfl) (by kernel_rfl) (by kernel_rfl)
  have hC := @run_callFunc_extern Tryd.prog 71 _ ecCmp Tryd.func71 (by kernel_rfl) (by kernel_rfl) (by kernel_rfl) (by kernel_rfl)
  have tT := ec_typeOfE
  have cT := ec_comparableE
  have mR := ec_mComparable
  obtain ⟨u, v, rfl⟩ := h.held
  clear h
  go_enter Tryd.func18, Tryd.ntmps18
  go_wp2_with (go_at_call 40; (with_reducible refine H.out.mono ?_); rintro e w' ⟨rfl, rfl⟩)
  go_ret
  exact ⟨rfl, rfl⟩
end Go.Proofs.YtlnljnldpnhjiaaDoor.Hand
