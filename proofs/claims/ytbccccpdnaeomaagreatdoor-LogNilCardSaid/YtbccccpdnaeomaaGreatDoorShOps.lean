/- The rules of the shallow reading: each operation, told by values. Nothing of any one program stands here. -/
import Derived.Test.YtbccccpdnaeomaaGreatDoorShSat
import Derived.ChangeKeysEq
import Derived.IntWalk
namespace Go.Sh
section
variable {P : Program} {Z : List PanicEntry → World → Prop} {w w' : World} {kk : Value → World → Prop} {kv : Value → Prop} {s : Sem Value} {v : Value}
theorem r1 (h : s.run P w = .ok v w') (hk : kk v w') : run1 P Z s w kk := ⟨by unfold nx; rw [Sem.run_bind, h]; exact hk⟩
theorem r0 {s : Sem Unit} {k : World → Prop} (h : s.run P w = .ok () w') (hk : k w') : run0 P Z s w k := ⟨by rw [Sem.run_bind, h]; exact hk⟩
theorem rX {s : Sem Next} (h : s.run P w = .ok (.value v) w') (hk : kk v w') : runX P Z s w kk := ⟨by rw [h]; exact hk⟩
theorem nx_run (h : s.run P w = .ok v w') : (nx s).run P w = .ok (.value v) w' := by unfold nx; rw [Sem.run_bind, h]; rfl
theorem rp (h : ∀ w, s.run P w = .ok v w) (hk : kv v) : Pure1 P s kv := ⟨v, fun w => nx_run (h w), hk⟩
theorem rr (h : s.run P w = .ok v w) (hk : kv v) : Read1 P s w kv := ⟨v, nx_run h, hk⟩
theorem rs {A : Prop} (h : s.run P w = .ok v w) (hk : A) : Still P (nx s) v w A := ⟨nx_run h, hk⟩
theorem r1_eq (h : ∀ w, s.run P w = .ok v w) : run1 P Z s w kk = kk v w := propext ⟨fun x => by have := x.out; rw [nx_run (h w)] at this; exact this, fun x => r1 (h w) x⟩
theorem rX_eq {s : Sem Next} (h : ∀ w, s.run P w = .ok (.value v) w) : runX P Z s w kk = kk v w := propext ⟨fun x => by have := x.out; rw [h w] at this; exact this, fun x => rX (h w) x⟩
end
section
variable {P : Program} {s : Sem Value} {v : Value} {kv : Value → Prop}
theorem rpV_eq {s : Sem Next} (h : ∀ w, s.run P w = .ok (.value v) w) : PureV P s kv = kv v := propext ⟨fun x => by
  obtain ⟨u, hu, hk⟩ := x.out
  have := hu default
  rw [h default] at this
  injection this with e1 e2
  injection e1 with e1
  exact e1 ▸ hk, fun x => ⟨v, h, x⟩⟩
theorem rp_eq (h : ∀ w, s.run P w = .ok v w) : Pure1 P s kv = kv v := propext ⟨fun x => by
  obtain ⟨u, hu, hk⟩ := x.out
  have := hu default
  rw [nx_run (h default)] at this
  injection this with e1 e2
  injection e1 with e1
  exact e1 ▸ hk, fun x => rp h x⟩
end
theorem cond_bool (b : Bool) (A B : Prop) : CondV (.bool b) A B = ((b = true → A) ∧ (b = false → B)) := propext ⟨fun h => h.out, fun h => ⟨h⟩⟩
theorem condT (A B : Prop) : CondV (.bool true) A B = A := by rw [cond_bool]; simp
theorem condF (A B : Prop) : CondV (.bool false) A B = B := by rw [cond_bool]; simp
theorem cond_decide (p : Prop) [Decidable p] (A B : Prop) : CondV (.bool (decide p)) A B = ((p → A) ∧ (¬ p → B)) := by rw [cond_bool]; simp
theorem cond_not (b : Bool) (A B : Prop) : CondV (.bool !b) A B = CondV (.bool b) B A := by
  cases b
  · simp [condT, condF]
  · simp [condT, condF]
theorem cond_bne (x y : Int) (A B : Prop) : CondV (.bool (x != y)) A B = ((x ≠ y → A) ∧ (x = y → B)) := by
  rw [cond_bool]; by_cases h : x = y <;> simp [h]
theorem guardW_true (body : (Value → World → Prop) → Prop) (k : Value → World → Prop) (w : World) : guardW (.bool true) true body k w = body k := propext ⟨fun h => h.out, fun h => ⟨h⟩⟩
theorem guardW_ff (body : (Value → World → Prop) → Prop) (k : Value → World → Prop) (w : World) : guardW (.bool false) false body k w = body k := propext ⟨fun h => h.out, fun h => ⟨h⟩⟩
theorem guardW_tf (body : (Value → World → Prop) → Prop) (k : Value → World → Prop) (w : World) : guardW (.bool true) false body k w = k undef w := propext ⟨fun h => h.out, fun h => ⟨h⟩⟩
theorem guardW_ft (body : (Value → World → Prop) → Prop) (k : Value → World → Prop) (w : World) : guardW (.bool false) true body k w = k undef w := propext ⟨fun h => h.out, fun h => ⟨h⟩⟩
theorem guardV_true (body : (Value → Prop) → Prop) (k : Value → Prop) : guardV (.bool true) true body k = body k := propext ⟨fun h => h.out, fun h => ⟨h⟩⟩
theorem guardV_ff (body : (Value → Prop) → Prop) (k : Value → Prop) : guardV (.bool false) false body k = body k := propext ⟨fun h => h.out, fun h => ⟨h⟩⟩
theorem guardV_tf (body : (Value → Prop) → Prop) (k : Value → Prop) : guardV (.bool true) false body k = k undef := propext ⟨fun h => h.out, fun h => ⟨h⟩⟩
theorem guardV_ft (body : (Value → Prop) → Prop) (k : Value → Prop) : guardV (.bool false) true body k = k undef := propext ⟨fun h => h.out, fun h => ⟨h⟩⟩
theorem CallV.mono {P : Program} {Z : List PanicEntry → World → Prop} {f : FuncId} {args : Array Value} {w : World} {k k' : Value → World → Prop} (h : CallV P Z f args w k) (hk : ∀ v w', k v w' → k' v w') : CallV P Z f args w k' :=
  ⟨h.out.mono fun e w' he => by
    cases e with
    | returned v => exact hk _ _ he
    | panicked ch => exact he
    | outgrown => exact he⟩
section
variable (P : Program) (w : World)
theorem run_add (t : TypeId) (k : IntKind) (x y : Int) : (binOp .add t (.int k x) (.int k y)).run P w = .ok (.int k (k.wrap (x + y))) w := by simp [binOp, Op.intArith]
theorem run_sub (t : TypeId) (k : IntKind) (x y : Int) : (binOp .sub t (.int k x) (.int k y)).run P w = .ok (.int k (k.wrap (x - y))) w := by simp [binOp, Op.intArith]
theorem run_mul (t : TypeId) (k : IntKind) (x y : Int) : (binOp .mul t (.int k x) (.int k y)).run P w = .ok (.int k (k.wrap (x * y))) w := by simp [binOp, Op.intArith]
theorem run_lss (t : TypeId) (k : IntKind) (x y : Int) : (binOp .lss t (.int k x) (.int k y)).run P w = .ok (.bool (decide (x < y))) w := by simp [binOp, Op.intCmp]
theorem run_leq (t : TypeId) (k : IntKind) (x y : Int) : (binOp .leq t (.int k x) (.int k y)).run P w = .ok (.bool (decide (x ≤ y))) w := by simp [binOp, Op.intCmp]
theorem run_gtr (t : TypeId) (k : IntKind) (x y : Int) : (binOp .gtr t (.int k x) (.int k y)).run P w = .ok (.bool (decide (y < x))) w := by simp [binOp, Op.intCmp]
theorem run_geq (t : TypeId) (k : IntKind) (x y : Int) : (binOp .geq t (.int k x) (.int k y)).run P w = .ok (.bool (decide (y ≤ x))) w := by simp [binOp, Op.intCmp]
theorem run_eql_int (t : TypeId) (cx cy : Bool) (k : IntKind) (x y : Int) : (eqOp .eql t cx cy (.int k x) (.int k y)).run P w = .ok (.bool (x == y)) w := by simp [eqOp, eqGuard, binOp, Op.intCmp]
theorem run_neq_int (t : TypeId) (cx cy : Bool) (k : IntKind) (x y : Int) : (eqOp .neq t cx cy (.int k x) (.int k y)).run P w = .ok (.bool (x != y)) w := by simp [eqOp, eqGuard, binOp, Op.intCmp]
theorem run_and (t : TypeId) (k : IntKind) (x y : Int) : (binOp .and t (.int k x) (.int k y)).run P w = .ok (.int k (k.wrap (BitVec.ofInt k.bits x &&& BitVec.ofInt k.bits y).toNat)) w := by simp [binOp, Op.intBits]
theorem run_or (t : TypeId) (k : IntKind) (x y : Int) : (binOp .or t (.int k x) (.int k y)).run P w = .ok (.int k (k.wrap (BitVec.ofInt k.bits x ||| BitVec.ofInt k.bits y).toNat)) w := by simp [binOp, Op.intBits]
theorem run_shr (t : TypeId) (k yk : IntKind) (x y : Int) (hy : 0 ≤ y) : (binOp .shr t (.int k x) (.int yk y)).run P w = .ok (.int k (x.fdiv (2 ^ min y.toNat k.bits))) w := by
  simp [binOp, Op.shift, show ¬ y < 0 by omega]
theorem run_shl (t : TypeId) (k yk : IntKind) (x y : Int) (hy : 0 ≤ y) : (binOp .shl t (.int k x) (.int yk y)).run P w = .ok (.int k (k.wrap (x * 2 ^ min y.toNat k.bits))) w := by
  simp [binOp, Op.shift, show ¬ y < 0 by omega]
theorem run_quo (t : TypeId) (k : IntKind) (x y : Int) (hy : y ≠ 0) : (binOp .quo t (.int k x) (.int k y)).run P w = .ok (.int k (k.wrap (x.tdiv y))) w := by simp [binOp, Op.intDiv, hy]
theorem run_rem (t : TypeId) (k : IntKind) (x y : Int) (hy : y ≠ 0) : (binOp .rem t (.int k x) (.int k y)).run P w = .ok (.int k (x.tmod y)) w := by simp [binOp, Op.intDiv, hy]
theorem run_not (b : Bool) : (Op.unary .not (.bool b)).run P w = .ok (.bool !b) w := by simp [Op.unary]
theorem run_nilChk (a : Addr) : (nilChk (.pointer (some a))).run P w = .ok (.value (.pointer (some a))) w := by simp [nilChk, execOp]
theorem run_pick (b : Bool) (x y : Value) : (pickV (.bool b) x y).run P w = .ok (if b then x else y) w := by simp [pickV, asBool]
theorem run_extract (vs : Array Value) (i : Nat) (v : Value) (h : vs[i]? = some v) : (Instr.extract (.tuple vs) i).run P w = .ok v w := by simp [Instr.extract, h]
theorem run_makeFunc (fn : Fn) (a b : Array Value) : (Instr.makeFunc fn a b).run P w = .ok (.func fn a b) w := by simp [Instr.makeFunc]
end
def isPtrT (P : Program) (t : TypeId) : Bool := match P.underlying t with | some (.pointer _) => true | _ => false
def isSliceT (P : Program) (t : TypeId) : Bool := match P.underlying t with | some (.slice _) => true | _ => false
def isStrT (P : Program) (t : TypeId) : Bool := match P.underlying t with | some .string => true | _ => false
def intT (P : Program) (t : TypeId) : Option IntKind := match P.underlying t with | some (.int k) => some k | _ => none
def offT (P : Program) (t : TypeId) (f : Nat) : Option Nat := match P.underlying t with
  | some (.struct fs) => (fs[f]?).bind fun x => (P.info? x.type).bind fun i => bif Nat.beq i.size 0 then none else some x.offset
  | _ => none
def oneT (P : Program) (t : TypeId) : Bool := match P.underlying t with
  | some (.struct _) => false
  | some (.array _ _) => false
  | some _ => match P.info? t with
    | some i => Nat.beq i.size 1
    | none => false
  | none => false
section
variable {P : Program} {w : World}
theorem isPtrT_spec {t : TypeId} (h : isPtrT P t = true) : ∃ e, P.underlying t = some (.pointer e) := by
  unfold isPtrT at h; split at h
  · rename_i e he; exact ⟨e, he⟩
  · cases h
theorem isSliceT_spec {t : TypeId} (h : isSliceT P t = true) : ∃ e, P.underlying t = some (.slice e) := by
  unfold isSliceT at h; split at h
  · rename_i e he; exact ⟨e, he⟩
  · cases h
theorem isStrT_spec {t : TypeId} (h : isStrT P t = true) : P.underlying t = some .string := by
  unfold isStrT at h; split at h
  · rename_i he; exact he
  · cases h
theorem intT_spec {t : TypeId} {k : IntKind} (h : intT P t = some k) : P.underlying t = some (.int k) := by
  unfold intT at h; split at h
  · rename_i k' he; injection h with h; subst h; exact he
  · cases h
theorem run_equal1 {t : TypeId} {x y : Value} {r : Bool} (h : ∀ d, (Op.equalIn (d + 1) t x y).run P w = .ok r w) : (Op.equal t x y).run P w = .ok r w := h 9999
theorem run_eql_ptr_nil {t : TypeId} (h : isPtrT P t = true) (cx cy : Bool) (a : Addr) (w : World) : (eqOp .eql t cx cy (.pointer (some a)) (.pointer none)).run P w = .ok (.bool false) w := by
  obtain ⟨e, he⟩ := isPtrT_spec h
  have hq := run_equal1 (P := P) (w := w) (t := t) (x := .pointer (some a)) (y := .pointer none) (r := false) fun d => by simp [Op.equalIn, run_underlying he]
  simp only [eqOp, eqGuard, binOp]
  simp [hq]
theorem run_neq_ptr_nil {t : TypeId} (h : isPtrT P t = true) (cx cy : Bool) (a : Addr) (w : World) : (eqOp .neq t cx cy (.pointer (some a)) (.pointer none)).run P w = .ok (.bool true) w := by
  obtain ⟨e, he⟩ := isPtrT_spec h
  have hq := run_equal1 (P := P) (w := w) (t := t) (x := .pointer (some a)) (y := .pointer none) (r := false) fun d => by simp [Op.equalIn, run_underlying he]
  simp only [eqOp, eqGuard, binOp]
  simp [hq]
theorem run_eqlNN {t : TypeId} (h : isPtrT P t = true) (cx cy : Bool) (w : World) : (eqOp .eql t cx cy (.pointer none) (.pointer none)).run P w = .ok (.bool true) w := by
  obtain ⟨e, he⟩ := isPtrT_spec h
  have hq := run_equal1 (P := P) (w := w) (t := t) (x := .pointer none) (y := .pointer none) (r := true) fun d => by simp [Op.equalIn, run_underlying he]
  simp only [eqOp, eqGuard, binOp]
  simp [hq]
theorem run_eql_slice_nil' {t : TypeId} (h : isSliceT P t = true) (cx cy : Bool) (a : Option Addr) (n c : Nat) (w : World) : (eqOp .eql t cx cy (.slice a n c) (.slice none 0 0)).run P w = .ok (.bool a.isNone) w := by
  obtain ⟨e, he⟩ := isSliceT_spec h
  have hq := run_equal1 (P := P) (w := w) (t := t) (x := .slice a n c) (y := .slice none 0 0) (r := a.isNone) fun d => by cases a <;> simp [Op.equalIn, run_underlying he]
  simp only [eqOp, eqGuard, binOp]
  simp [hq]
theorem run_neq_slice_nil' {t : TypeId} (h : isSliceT P t = true) (cx cy : Bool) (a : Option Addr) (n c : Nat) (w : World) : (eqOp .neq t cx cy (.slice a n c) (.slice none 0 0)).run P w = .ok (.bool !a.isNone) w := by
  obtain ⟨e, he⟩ := isSliceT_spec h
  have hq := run_equal1 (P := P) (w := w) (t := t) (x := .slice a n c) (y := .slice none 0 0) (r := a.isNone) fun d => by cases a <;> simp [Op.equalIn, run_underlying he]
  simp only [eqOp, eqGuard, binOp]
  simp [hq]
theorem run_eql_str (t : TypeId) (cx cy : Bool) (a b : ByteArray) (w : World) : (eqOp .eql t cx cy (.string a) (.string b)).run P w = .ok (.bool (a.toList == b.toList)) w := by simp [eqOp, eqGuard, binOp, Op.stringOp]
theorem run_neq_str (t : TypeId) (cx cy : Bool) (a b : ByteArray) (w : World) : (eqOp .neq t cx cy (.string a) (.string b)).run P w = .ok (.bool !(a.toList == b.toList)) w := by simp [eqOp, eqGuard, binOp, Op.stringOp]
theorem run_conv_int {src dst : TypeId} {k : IntKind} (hs : (P.underlying src).isSome = true) (hd : intT P dst = some k) (q : IntKind) (n : Int) (w : World) : (convert src dst (.int q n)).run P w = .ok (.int k (k.wrap n)) w := by
  obtain ⟨d, hd'⟩ := Option.isSome_iff_exists.1 hs
  simp [convert, run_underlying hd', run_underlying (intT_spec hd), Conv.intToInt]
theorem run_lenS {t : TypeId} (h : isSliceT P t = true) (ts : Array TypeId) (ht : ts[0]? = some t) (ty : TypeId) (a : Option Addr) (n c : Nat) (w : World) : (Builtin.len_ ts ty #[.slice a n c]).run P w = .ok (.int .i64 n) w := by
  obtain ⟨e, he⟩ := isSliceT_spec h
  simp [Builtin.len_, ht, run_underlying he, goInt]
theorem run_lenStr {t : TypeId} (h : isStrT P t = true) (ts : Array TypeId) (ht : ts[0]? = some t) (ty : TypeId) (s : ByteArray) (w : World) : (Builtin.len_ ts ty #[.string s]).run P w = .ok (.int .i64 s.size) w := by
  simp [Builtin.len_, ht, run_underlying (isStrT_spec h), goInt]
theorem add_addr (b i n : Nat) : (⟨b, i, none⟩ : Addr).add n = ⟨b, i + n, none⟩ := by
  unfold Addr.add; split <;> simp_all
theorem run_fieldAt {t f n : Nat} (h : offT P t f = some n) (b i : Nat) (w : World) : (Instr.fieldAt t (.pointer (some ⟨b, i, none⟩)) f).run P w = .ok (.pointer (some ⟨b, i + n, none⟩)) w := by
  unfold offT at h
  split at h
  · rename_i fs hu
    cases hf : fs[f]? with
    | none => simp [hf] at h
    | some x =>
      simp only [hf, Option.bind_some] at h
      cases hi : P.info? x.type with
      | none => simp [hi] at h
      | some info =>
        simp only [hi, Option.bind_some] at h
        by_cases hz : info.size = 0
        · rw [hz, Nat.beq_refl] at h; cases h
        · rw [beq_false_of_ne hz] at h
          injection h with h
          subst h
          have hc : P.cellsOf x.type = info.size := by simp [Program.cellsOf, hi]
          simp [Instr.fieldAt, run_underlying hu, hf, Instr.sureAddr, fieldPlace, run_sizeOf _ hi, hc, hz, add_addr]
  · cases h
theorem run_loadAt1 {t : TypeId} (h : oneT P t = true) {a : Addr} {v : Value} (hc : w.cell? a = some v) : (Instr.loadAt t (.pointer (some a))).run P w = .ok v w := by
  unfold oneT at h
  split at h
  · cases h
  · cases h
  · rename_i d h1 h2 hd
    have hagg : (isAgg t).run P w = .ok false w := by
      unfold isAgg
      simp only [Sem.run_bind, run_underlying hd]
      cases d <;> first | rfl | (exfalso; exact h1 _ rfl) | (exfalso; exact h2 _ _ rfl)
    simp [Instr.loadAt, Instr.sureAddr, loadVar, hagg, load, Sem.run, hc]
  · cases h
theorem run_storeAt1 {t : TypeId} (h : oneT P t = true) {a : Addr} {u v : Value} (hc : w.cell? a = some u) (hf : w.frozen? a = false) (hv : v.oneCell' = true) : (Instr.storeAt t (.pointer (some a)) v).run P w = .ok () (w.setCell a v) := by
  unfold oneT at h
  split at h
  · cases h
  · cases h
  · rename_i d h1 h2 hd
    split at h
    · rename_i info hi
      have hsz : info.size = 1 := Nat.eq_of_beq_eq_true h
      have hcells : v.cells = #[v] := by cases v <;> simp [Value.oneCell'] at hv <;> rfl
      have hc' : P.cellsOf t = 1 := by simp [Program.cellsOf, hi, hsz]
      have ha : a.add 0 = a := by simp [Addr.add]
      simp only [Instr.storeAt, Instr.sureAddr, storeVar, hcells, Sem.run_bind, run_sizeOf _ hi, Sem.run_pure, Result.andThen_ok, hc']
      simp [storeCells, ha, run_store P w a v .plain hv, hc, hf]
    · cases h
  · cases h
theorem run_indexAt {t e : TypeId} (h : P.underlying t = some (.slice e)) {info : TypeInfo} (hi : P.info? e = some info) (b off n c : Nat) (k : IntKind) (i : Int) (h0 : 0 ≤ i) (h1 : i < n) (w : World) :
    (Instr.indexAt t (.slice (some ⟨b, off, none⟩) n c) (.int k i)).run P w = .ok (.pointer (some ⟨b, off + i.toNat * info.size, none⟩)) w := by
  have hc : P.cellsOf e = info.size := by simp [Program.cellsOf, hi]
  simp [Instr.indexAt, asIntOf, run_underlying h, run_sizeOf _ hi, hc, h0, h1, add_addr]
end
theorem wr_i64 {x : Int} (h1 : -9223372036854775808 ≤ x) (h2 : x ≤ 9223372036854775807) : IntKind.i64.wrap x = x := IntWalk.i64_in x ⟨h1, h2⟩
theorem wr_i32 {x : Int} (h1 : -2147483648 ≤ x) (h2 : x ≤ 2147483647) : IntKind.i32.wrap x = x := IntWalk.i32_in x ⟨h1, h2⟩
theorem wr_u8 {x : Int} (h1 : 0 ≤ x) (h2 : x ≤ 255) : IntKind.u8.wrap x = x := IntWalk.u8_in x ⟨h1, h2⟩
theorem wr_u32 {x : Int} (h1 : 0 ≤ x) (h2 : x ≤ 4294967295) : IntKind.u32.wrap x = x := IntWalk.u32_in x ⟨h1, h2⟩
theorem wr_u64 {x : Int} (h1 : 0 ≤ x) (h2 : x ≤ 18446744073709551615) : IntKind.u64.wrap x = x := IntWalk.u64_in x ⟨h1, h2⟩
end Go.Sh
