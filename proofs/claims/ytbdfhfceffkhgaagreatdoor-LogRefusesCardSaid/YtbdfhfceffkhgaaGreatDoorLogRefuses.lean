
/- A transaction that is refused changes nothing; for every list, number, transaction and room. -/
import Derived.Test.YtbdfhfceffkhgaaGreatDoorRows
import Derived.WalkKit
import Derived.ProofKit
import Derived.OpenShut
import Derived.ShutString
import Derived.ChangeOld
import Derived.Below
import Derived.Test.YtbdfhfceffkhgaaGreatDoorL23
import Derived.LaidMore
import Derived.Stop.Joined
import Derived.Stop.LaidErr
import Derived.MakeChecks
import Derived.LaidHandle
import Derived.LaidLaws
import Derived.SevenTiedAt
import Derived.Test.YtbdfhfceffkhgaaGreatDoorTie
import Derived.Test.YtbdfhfceffkhgaaGreatDoorCards
namespace Go.Proofs.YtbdfhfceffkhgaaGreatDoor.LogRefusesRow
open Go.ChangeShapes Go.WideShapes Go.ChangeAt Go.RowKit
set_option linter.unusedVariables false
set_option linter.unusedSimpArgs false
theorem own : ownKnob Tryz.prog.godebug = none := by kernel_rfl
theorem laidOut : laidOutB Tryz.prog = true := by kernel_rfl
theorem both {W : World} (hL : laidMet Tryz.prog Rows.logRefusesRow.laid W) : Names W ∧ Bits W := by
  have h2 : laidMet Tryz.prog [("math/bits.deBruijn64tab", Lib.tabData .u8 dbTab), ("internal/strconv.uint64pow10", Rows.laid_internal_strconv_uint64pow10), ("strconv.ErrRange", Rows.laid_strconv_ErrRange), ("strconv.ErrSyntax", Rows.laid_strconv_ErrSyntax), ("lagoon/txn.names", Lib.tabData .u64 namesTab)] W := by
    have e : Lib.tabData .u64 namesTab = (Rows.laid_lagoon_txn_names : DataW Unit) := by kernel_rfl
    have e2 : Lib.tabData .u8 dbTab = (Rows.laid_math_bits_deBruijn64tab : DataW Unit) := by kernel_rfl
    rw [e, e2]
    exact laidMet.tail hL
  exact ⟨Lib.tabIs_of_head (g := 0) (t := 209) (e := 131) (n := 13) (by kernel_rfl) (by kernel_rfl) (by kernel_rfl) (by kernel_rfl) (by kernel_rfl) (by kernel_rfl) (laidMet.tail (laidMet.tail (laidMet.tail (laidMet.tail h2)))),
    Lib.tabIs_of_head (g := 5) (t := 255) (e := 5) (n := 64) (by kernel_rfl) (by kernel_rfl) (by kernel_rfl) (by kernel_rfl) (by kernel_rfl) (by kernel_rfl) h2⟩
theorem walk (W : World) (hL : laidMet Tryz.prog Rows.logRefusesRow.laid W) (x0 : Value) (h0 : TxsC W [x0]) (x1 : Value) (h1 : IntO W [x1]) (c2 : Array Value) (h2 : TxO W c2.toList) (x3 : Value) (h3 : IntO W [x3]) : Calls Tryz.prog 4 #[x0, x1, .agg c2, x3] W fun e w' => e = .returned (.bool true) ∧ Below W.heap.size W w' := by
  obtain ⟨ax, cx, ts, rfl, hcap, hw, hx⟩ := txsC_open h0
  obtain ⟨b, hb, hb1, hb2⟩ := h1
  obtain ⟨t, hc, hh, hq, hqw⟩ := h2
  obtain ⟨k, hk, hk1, hk2⟩ := h3
  injection hb with hb; subst hb
  injection hk with hk; subst hk
  obtain rfl : c2 = t.cells.toArray := by rw [← hc]
  exact Sh.St.fin (logRefuses _ b k ⟨hb1, hb2⟩ ⟨hk1, hk2⟩ hw hx hh hqw hq (both hL).1 (both hL).2)
theorem door_met (os : Os) (args : Array Value) : laidMetH Tryz.prog Rows.logRefusesRow.laid ((World.doorLaid Tryz.prog 67 os).forCall (fun _ _ => 0) ⟨#[], args, []⟩).memory :=
  laidMetH_of_parts3 (fuel := 8) (laidMet_of_run' 8 (by kernel_rfl) (by kernel_rfl)) (by kernel_rfl) (by kernel_rfl)
set_option maxRecDepth 100000 in
theorem lifted (os : Os) (started : os.Started) (H : Type) (enc : TypeId × Value → H) :
    ReturnsInHanded {} Tryz.checked os 4 .any (fun w args => (Rows.logRefusesSpec.pre enc Tryz.prog Tryz.f4 [] false w args ∧ laidMetH Tryz.prog Rows.logRefusesRow.laid w) ∧ sizedMet enc Tryz.prog Tryz.f4 (OpenSpec.ofChange Rows.logRefusesSpec) false w args) (Rows.logRefusesSpec.post enc Tryz.prog Tryz.f4 false true false false) := by
  refine returnsInHanded_of_change_and (C := Tryz.checked) (X := fun w _ => laidMetH Tryz.prog Rows.logRefusesRow.laid w) (fun _ _ _ hh h => h.of_heap hh) own started (by kernel_rfl) Tryz.func4
    (ChangeSpec.witness_shaped (enc := enc) (C := Tryz.checked) (os := os) (X := fun w _ => laidMetH Tryz.prog Rows.logRefusesRow.laid w) false (World.doorLaid Tryz.prog 67 os) #[.slice none 0 0, .int .i64 0, .agg #[.int .u32 0, .int .u32 0, .int .i8 0, .int .u32 0, .int .i64 0, .int .i8 0, .string ByteArray.empty, .slice none 0 0, .slice none 0 0, .int .i32 0, .bool false, .bool false, .int .i64 0, .int .i32 0, .slice none 0 0, .slice none 0 0], .int .i64 0] 8 rfl (World.shaped_of_RefB (by kernel_rfl) (by kernel_rfl)) (by kernel_rfl) (by kernel_rfl) (by kernel_rfl) (door_met os _)) ?_
  intro W base args ds gs before hval0 hW hcnd hsz0 hL0 _
  have hL : laidMet Tryz.prog Rows.logRefusesRow.laid W := by rw [← MakeChecks.laidMetH_plain _ _ _ (by kernel_rfl)]; exact hL0
  have hval : ∀ (j : Nat) t v, Tryz.f4.params[j]? = some t → args[j]? = some v → Value.okWide Tryz.prog W .any base t v := hval0
  have hW' := hW
  obtain ⟨p, q, hA0, hV, rfl, hfz, hnd⟩ := hW
  have hA : DataW.TrodAll enc Tryz.prog W 0 (fun _ => true) true Tryz.f4.params.toList args.toList ds p := hA0
  rw [Tryz.params4] at hA hval
  obtain ⟨v0, vs0, d0, ds0, p0, q0, hargs, rfl, rfl, k0, r0⟩ := trodAll_cons hA
  obtain ⟨v1, vs1, d1, ds1, p1, q1, rfl, rfl, rfl, k1, r1⟩ := trodAll_cons r0
  obtain ⟨v2, vs2, d2, ds2, p2, q2, rfl, rfl, rfl, k2, r2⟩ := trodAll_cons r1
  obtain ⟨v3, vs3, d3, ds3, p3, q3, rfl, rfl, rfl, k3, r3⟩ := trodAll_cons r2
  obtain ⟨rfl, rfl, rfl⟩ := trodAll_nil r3
  obtain rfl : args = #[v0, v1, v2, v3] := by cases args; simp_all
  obtain ⟨rfl, rfl⟩ := trodVars_none hV
  obtain ⟨a0, l0, m0, rfl⟩ := okWide_slice Tryz.underlying22 (hval 0 22 v0 rfl rfl)
  obtain ⟨a1, rfl⟩ := okWide_int Tryz.underlying3 (hval 1 3 v1 rfl rfl)
  obtain ⟨c2, rfl, _⟩ := okWide_struct Tryz.underlying50 (hval 2 50 v2 rfl rfl)
  obtain ⟨a3, rfl⟩ := okWide_int Tryz.underlying3 (hval 3 3 v3 rfl rfl)
  have hsz : (DataW.weightsEach Tryz.prog (Tryz.f4.params.toList ++ Rows.logRefusesSpec.plain.varTypes Tryz.prog) ([d0, d1, d2, d3] ++ [])).all (· ≤ reachBytes) = true := hsz0
  rw [Tryz.params4] at hsz
  rw [List.append_nil] at hsz
  obtain ⟨sz0, hsz⟩ := Sh.weights_part hsz
  obtain ⟨sz1, hsz⟩ := Sh.weights_part hsz
  obtain ⟨sz2, hsz⟩ := Sh.weights_part hsz
  obtain ⟨sz3, hsz⟩ := Sh.weights_part hsz
  have lt0 : ∀ x ∈ p0, x.block < W.heap.size := by obtain ⟨m, hm⟩ := k0; exact DataW.trod_lt m _ _ _ hm
  have lt1 : ∀ x ∈ p1, x.block < W.heap.size := by obtain ⟨m, hm⟩ := k1; exact DataW.trod_lt m _ _ _ hm
  have lt2 : ∀ x ∈ p2, x.block < W.heap.size := by obtain ⟨m, hm⟩ := k2; exact DataW.trod_lt m _ _ _ hm
  have lt3 : ∀ x ∈ p3, x.block < W.heap.size := by obtain ⟨m, hm⟩ := k3; exact DataW.trod_lt m _ _ _ hm
  clear hA0 hval0
  refine (walk W hL _ ((opn_TxsC W).use k0 sz0) _ ((opn_IntO W).use k1 sz1) c2 ((opn_TxO W).use k2 sz2) _ ((opn_IntO W).use k3 sz3)).mono fun e W' ⟨he, bel⟩ => ?_
  subst he
  exact ⟨_, rfl, _, _, _, [], _, [], hW', trodAll_mk1 (shut_bool Tryz.underlying4 _), (trodAll_cons_mk (Below.trod laidOut (by kernel_rfl) (of_decide_eq_true (by kernel_rfl)) k0 bel lt0) (trodAll_cons_mk (Below.trod laidOut (by kernel_rfl) (of_decide_eq_true (by kernel_rfl)) k1 bel lt1) (trodAll_cons_mk (Below.trod laidOut (by kernel_rfl) (of_decide_eq_true (by kernel_rfl)) k2 bel lt2) (trodAll_cons_mk (Below.trod laidOut (by kernel_rfl) (of_decide_eq_true (by kernel_rfl)) k3 bel lt3) trodAll_mk0)))), rfl, bel.frame _, fun h => by cases h⟩
theorem over : Rows.logRefusesRow.holds Tryz.pinned (OpenSpec.ofChange Rows.logRefusesSpec) :=
  OpenClaim.holds_of_wide 4 Tryz.f4 rfl rfl rfl rfl rfl rfl rfl ⟨rfl, rfl, rfl, rfl, rfl⟩ rfl rfl rfl rfl rfl (by kernel_rfl) Tryz.func4 (by kernel_rfl)
    (of_decide_eq_true (by kernel_rfl)) (by unfold Func.isWrapper; first | (rw [if_pos (by decide +kernel)]; kernel_rfl) | (rw [if_neg (by decide +kernel)]; exact ⟨rfl, rfl⟩))
    (fun os started H enc _ => lifted os started H enc)
theorem proved : Rows.LogRefusesCardSaid :=
  Claim7.holds_tied_plain_at .later [] [.data, .data, .data, .sentinel, .sentinel, .data] true (true, "70b38b50b546bcd8a439d8e745717e4d59d65ea5597d10d467e8bb80afeb2609") true
    over (fun _ h => by cases h) (by kernel_rfl) (fun _ h => by cases h) logRefuses_row_tie rfl ⟨rfl, rfl⟩ (by kernel_rfl) rfl
    (fun f fn hf hfn => by
      obtain rfl : f = 4 := Option.some.inj ((show Tryz.prog.funcNamed "lagoon/lagoonlaw10.LogRefuses" = some 4 by kernel_rfl).symm.trans hf) |>.symm
      obtain rfl : fn = Tryz.f4 := (Option.some.inj (Tryz.func4.symm.trans hfn)).symm
      exact ⟨by kernel_rfl, fun j t ht => by
        rw [Tryz.params4] at ht
        have hm : t ∈ [22, 3, 50, 3] := by simpa using Array.mem_of_getElem? ht
        have hall : ([22, 3, 50, 3].all fun u => !Tryz.prog.wantsStandIn u) = true := by kernel_rfl
        exact (show Tryz.prog.wantsStandIn t = false by simpa using List.all_eq_true.1 hall t hm)⟩)
    (by kernel_rfl)
#print axioms proved
end Go.Proofs.YtbdfhfceffkhgaaGreatDoor.LogRefusesRow
