/- MetaNumbers: whatever the input the call returns true, and each argument reads afterwards as it read before. Conditions: the listed package variables hold what the program's text lays (the card ties them to the text). -/
import Derived.Test.YtlaagebdbcmckaaGreatDoorCards
import Derived.Test.YtlaagebdbcmckaaGreatDoorTie
import Derived.Test.YtlaagebdbcmckaaGreatDoorBK
import Derived.Test.YtlaagebdbcmckaaGreatDoorCEnum
import Derived.Deep.DeepWitnessRowRef
import Derived.SevenTiedAt
import Derived.Shelf.Vars
namespace Go.Proofs.YtlaagebdbcmckaaGreatDoor.lawMetaNumbers
set_option linter.unusedSimpArgs false
set_option linter.unusedVariables false
open Go.ChangeShapes Go.WideShapes Go.ChangeAt Go.RowKit
open Go.ChangeMaps (open_string)

theorem own : ownKnob Tryz.prog.godebug = none := by kernel_rfl

set_option maxRecDepth 100000 in
theorem contract (H : Type) (enc : TypeId × Value → H) (W : World) (base : Nat) (args : Array Value) (ds gs : List (DataW H)) (before : List MemPlace)
    (hval : ∀ (j : Nat) t v, Tryz.f6.params[j]? = some t → args[j]? = some v → Value.okWide Tryz.prog W .any base t v)
    (hW : DataW.Whole enc Tryz.prog Tryz.f6.params.toList Rows.metaNumbersSpec.vars false W args.toList ds gs before) (hL : laidMetH Tryz.prog Rows.metaNumbersRow.laid W) (hSh : W.ShapedOpen Tryz.prog) :
    Calls Tryz.prog 6 args W fun e W' => ∃ v, e = .returned v ∧ Rows.metaNumbersSpec.post enc Tryz.prog Tryz.f6 false true false false W args v W' := by
  have hW' := hW
  obtain ⟨p, q, hA0, hV, hpq, hfz, hnd⟩ := hW
  have hA : DataW.TrodAll enc Tryz.prog W 0 (fun _ => true) true Tryz.f6.params.toList args.toList ds p := hA0
  rw [Tryz.params6] at hA hval
  obtain ⟨v0, vs0, d0, ds0, p0, q0, hargs0, hds0, hps0, h0, r0⟩ := trodAll_cons hA
  obtain ⟨v1, vs1, d1, ds1, p1, q1, hargs1, hds1, hps1, h1, r1⟩ := trodAll_cons r0
  obtain ⟨v2, vs2, d2, ds2, p2, q2, hargs2, hds2, hps2, h2, r2⟩ := trodAll_cons r1
  obtain ⟨v3, vs3, d3, ds3, p3, q3, hargs3, hds3, hps3, h3, r3⟩ := trodAll_cons r2
  obtain ⟨v4, vs4, d4, ds4, p4, q4, hargs4, hds4, hps4, h4, r4⟩ := trodAll_cons r3
  obtain ⟨v5, vs5, d5, ds5, p5, q5, hargs5, hds5, hps5, h5, r5⟩ := trodAll_cons r4
  obtain ⟨hvs, hdn, hpn⟩ := trodAll_nil r5
  have hargs : args.toList = [v0, v1, v2, v3, v4, v5] := by rw [hargs0, hargs1, hargs2, hargs3, hargs4, hargs5, hvs]
  have hds : ds = [d0, d1, d2, d3, d4, d5] := by rw [hds0, hds1, hds2, hds3, hds4, hds5, hdn]
  have hargs' : args = #[v0, v1, v2, v3, v4, v5] := by apply Array.toList_inj.1; rw [hargs]
  have hgs : gs = [] := (trodVars_none hV).1
  have hfn : Rows.metaNumbersSpec.fn H (ds ++ gs) = { results := [.lit (.bool true)], args := ds } := by rw [hds, hgs]; rfl
  have fin : ∀ W', Below W.heap.size W W' → Rows.metaNumbersSpec.post enc Tryz.prog Tryz.f6 false true false false W args (.bool true) W' := fun W' hb =>
    law_post (tb := 4) (by kernel_rfl) (by kernel_rfl) (by kernel_rfl) Tryz.underlying4 rfl hW' hfn hb
  subst hargs'
  obtain ⟨x0, hx0, _, _, w0⟩ := open_int Tryz.underlying31 (hval 0 31 v0 rfl rfl) h0
  obtain ⟨x1, hx1, _, _, w1⟩ := open_int Tryz.underlying31 (hval 1 31 v1 rfl rfl) h1
  obtain ⟨x2, hx2, _, _, w2⟩ := open_int Tryz.underlying31 (hval 2 31 v2 rfl rfl) h2
  obtain ⟨x3, hx3, _, _, w3⟩ := open_int Tryz.underlying30 (hval 3 30 v3 rfl rfl) h3
  obtain ⟨x4, hx4, _, _, _⟩ := open_int Tryz.underlying2 (hval 4 2 v4 rfl rfl) h4
  obtain ⟨x5, hx5, _, _, _⟩ := open_int Tryz.underlying2 (hval 5 2 v5 rfl rfl) h5
  subst hx0; subst hx1; subst hx2; subst hx3; subst hx4; subst hx5
  have b0 := bounds_u64 w0
  have b1 := bounds_u64 w1
  have b2 := bounds_u64 w2
  have b3 := bounds_u32 w3
  obtain ⟨k0, rfl⟩ := Int.eq_ofNat_of_zero_le b0.1
  obtain ⟨k1, rfl⟩ := Int.eq_ofNat_of_zero_le b1.1
  obtain ⟨k2, rfl⟩ := Int.eq_ofNat_of_zero_le b2.1
  obtain ⟨k3, rfl⟩ := Int.eq_ofNat_of_zero_le b3.1
  have henv : EnvT W := ⟨env_of_laid (show laidMet Tryz.prog Rows.metaNumbersRow.laid W from hL), cell_of_shapedOpen_int (zero := #[.int .i64 0]) (t := 3) hSh (by decide +kernel) (by kernel_rfl) rfl (by kernel_rfl) (by kernel_rfl) Tryz.underlying3⟩
  have walk := numbers_walk k0 k1 k2 k3 x4 x5 (by omega) (by omega) (by omega) (by omega) W henv

  refine walk.mono fun e W' ⟨he, hb⟩ => ?_
  exact ⟨_, he, fin W' hb⟩

/-- A world for the witness: what the program's own initialisers lay. -/
noncomputable def laidWorld (os : Os) : World := Go.Proofs.YtlaagebdbcmckaaGreatDoor.laidWorld os
theorem laid_met (os : Os) : laidMet Tryz.prog Rows.metaNumbersRow.laid ((laidWorld os).forCall (fun _ _ => 0) ⟨#[], #[.int .u64 0, .int .u64 0, .int .u64 0, .int .u32 0, .int .i64 0, .int .i64 0], []⟩).memory :=
  laidMet_of_run' 8 (by kernel_rfl) (by kernel_rfl)
theorem reads (os : Os) {H : Type} (enc : TypeId × Value → H) : ∃ places, DataW.whole enc Tryz.prog ((laidWorld os).forCall (fun _ _ => 0) ⟨#[], #[.int .u64 0, .int .u64 0, .int .u64 0, .int .u32 0, .int .i64 0, .int .i64 0], []⟩).memory Tryz.f6.params.toList Rows.metaNumbersSpec.vars false #[.int .u64 0, .int .u64 0, .int .u64 0, .int .u32 0, .int .i64 0, .int .i64 0].toList 8 = some ([.lit (.int .u64 0), .lit (.int .u64 0), .lit (.int .u64 0), .lit (.int .u32 0), .lit (.int .i64 0), .lit (.int .i64 0)], [], places) :=
  ⟨[], by kernel_rfl⟩

set_option maxRecDepth 100000 in
theorem lifted (os : Os) (started : os.Started) (H : Type) (enc : TypeId × Value → H) (F : Stop.Interp) :
    ReturnsInHanded {} Tryz.checked os 6 .any ((OpenSpec.ofChange Rows.metaNumbersSpec).preRow enc Tryz.prog Tryz.f6 Rows.metaNumbersRow.domain false Rows.metaNumbersRow.laid) (((OpenSpec.ofChange Rows.metaNumbersSpec).at F).post enc Tryz.prog Tryz.f6 false true false false) := by
  obtain ⟨places, hx⟩ := reads os enc
  refine returnsInHanded_of_row (C := Tryz.checked) (s := OpenSpec.ofChange Rows.metaNumbersSpec) own started (by kernel_rfl) Tryz.func6
    (witness_row_atRef (enc := enc) (C := Tryz.checked) false (laidWorld os) #[.int .u64 0, .int .u64 0, .int .u64 0, .int .u32 0, .int .i64 0, .int .i64 0] rfl (by kernel_rfl) (by kernel_rfl) (by kernel_rfl)
      (OpenSpec.preRow_of_cond 8 hx (by kernel_rfl) (fun k hk => by cases hk) (by kernel_rfl) (laid_met os))) ?_
  intro W base args ds gs before hval hW _ _ _ hL hSh _
  exact contract H enc W base args ds gs before hval hW hL hSh

theorem said : Rows.MetaNumbersSaid :=
  OpenClaim.holds_of_cond 6 Tryz.f6 rfl rfl rfl rfl rfl rfl rfl ⟨rfl, rfl, rfl, rfl, rfl⟩ rfl rfl rfl rfl rfl (by kernel_rfl) Tryz.func6 (by kernel_rfl)
    (of_decide_eq_true (by kernel_rfl)) (by unfold Func.isWrapper; first | (rw [if_pos (by decide +kernel)]; kernel_rfl) | (rw [if_neg (by decide +kernel)]; exact ⟨rfl, rfl⟩))
    (fun os started H enc _ F => by rw [OpenClaim.pre_eq_preRow]; exact lifted os started H enc F)

theorem plain (f : FuncId) (fn : Func) (hf : Tryz.pinned.checked.prog.funcNamed "ambry/ambrylaw21.MetaNumbers" = some f) (hfn : Tryz.pinned.checked.prog.funcs[f]? = some fn) :
    true = Tryz.pinned.checked.prog.looks [] ∧ ∀ (j : Nat) t, fn.params[j]? = some t → Tryz.pinned.checked.prog.wantsStandIn t = false := by
  obtain rfl : f = 6 := Option.some.inj ((show Tryz.prog.funcNamed "ambry/ambrylaw21.MetaNumbers" = some 6 by kernel_rfl).symm.trans hf) |>.symm
  obtain rfl : fn = Tryz.f6 := (Option.some.inj (Tryz.func6.symm.trans hfn)).symm
  refine ⟨by kernel_rfl, fun j t ht => ?_⟩
  rw [Tryz.params6] at ht
  have hm : t ∈ [31, 31, 31, 30, 2, 2] := by simpa using Array.mem_of_getElem? ht
  have hall : ([31, 31, 31, 30, 2, 2].all fun u => !Tryz.prog.wantsStandIn u) = true := by kernel_rfl
  exact (show Tryz.prog.wantsStandIn t = false by simpa using List.all_eq_true.1 hall t hm)

theorem card : Rows.MetaNumbersCardSaid :=
  Claim7.holds_tied_plain_at .later [] _ _ _ _ said (fun _ h => by cases h) (by kernel_rfl) (fun _ h => by cases h) metaNumbers_row_tie rfl ⟨rfl, rfl⟩ (by kernel_rfl) rfl plain (by kernel_rfl)
#print axioms card
end Go.Proofs.YtlaagebdbcmckaaGreatDoor.lawMetaNumbers
