/- ConnPlays: whatever the input the call returns true, and each argument reads afterwards as it read before. Conditions: the listed package variables hold what the program's text zM (the card ties them to the text). -/
import Derived.Test.YtcbmlanpianclaaGreatDoorCards
import Derived.Test.YtcbmlanpianclaaGreatDoorTie
import Derived.Test.YtcbmlanpianclaaGreatDoorBS00
import Derived.Test.YtcbmlanpianclaaGreatDoorBS18
import Derived.Deep.DeepWitnessRowRef
import Derived.SevenTiedAt
import Derived.Shelf.Vars
namespace Go.Proofs.YtcbmlanpianclaaGreatDoor.lawConnPlays
set_option linter.unusedSimpArgs false
set_option linter.unusedVariables false
open Go.ChangeShapes Go.WideShapes Go.ChangeAt Go.RowKit
open Go.ChangeMaps (open_string)
theorem own : ownKnob Tryz.prog.godebug = none := by kernel_rfl
set_option maxRecDepth 100000 in
theorem contract (H : Type) (enc : TypeId × Value → H) (W : World) (base : Nat) (args : Array Value) (ds gs : List (DataW H)) (before : List MemPlace)
    (hval : ∀ (j : Nat) t v, Tryz.f3.params[j]? = some t → args[j]? = some v → Value.okWide Tryz.prog W .any base t v)
    (hW : DataW.Whole enc Tryz.prog Tryz.f3.params.toList Rows.connPlaysSpec.vars false W args.toList ds gs before) (hL : laidMetH Tryz.prog Rows.connPlaysRow.laid W) (hSh : W.ShapedOpen Tryz.prog) :
    Calls Tryz.prog 3 args W fun e W' => ∃ v, e = .returned v ∧ Rows.connPlaysSpec.post enc Tryz.prog Tryz.f3 false true false false W args v W' := by
  have hW' := hW
  obtain ⟨p, q, hA0, hV, hpq, hfz, hnd⟩ := hW
  have hA : DataW.TrodAll enc Tryz.prog W 0 (fun _ => true) true Tryz.f3.params.toList args.toList ds p := hA0
  rw [Tryz.params3] at hA hval
  obtain ⟨v0, vs0, d0, ds0, p0, q0, hargs0, hds0, hps0, h0, r0⟩ := trodAll_cons hA
  obtain ⟨hvs, hdn, hpn⟩ := trodAll_nil r0
  have hargs : args.toList = [v0] := by rw [hargs0, hvs]
  have hds : ds = [d0] := by rw [hds0, hdn]
  have hargs' : args = #[v0] := by apply Array.toList_inj.1; rw [hargs]
  have hgs : gs = [] := (trodVars_none hV).1
  have hfn : Rows.connPlaysSpec.fn H (ds ++ gs) = { results := [.lit (.bool true)], args := ds } := by rw [hds, hgs]; rfl
  have fin : ∀ W', Below W.heap.size W W' → Rows.connPlaysSpec.post enc Tryz.prog Tryz.f3 false true false false W args (.bool true) W' := fun W' hb =>
    law_post (tb := 4) (by kernel_rfl) (by kernel_rfl) (by kernel_rfl) Tryz.underlying4 rfl hW' hfn hb
  subst hargs'
  obtain ⟨A, n, c, f, rfl, hnm, hops⟩ := open_opl (hval 0 22 v0 rfl rfl) h0
  have henv : EnvT W := ⟨env_of_laid (show laidMet Tryz.prog Rows.connPlaysRow.laid W from hL), cell_of_shapedOpen_int (zero := #[.int .i64 0]) (t := 3) hSh (by decide +kernel) (by kernel_rfl) rfl (by kernel_rfl) (by kernel_rfl) Tryz.underlying3⟩
  have walk := plays_walk (c0 := c) hops (by unfold maxLen at hnm; omega) henv
  refine walk.mono fun e W' ⟨he, hb⟩ => ?_
  exact ⟨_, he, fin W' hb⟩
noncomputable def laidWorld (os : Os) : World := Go.Proofs.YtcbmlanpianclaaGreatDoor.laidWorld os
theorem laid_met (os : Os) : laidMet Tryz.prog Rows.connPlaysRow.laid ((laidWorld os).forCall (fun _ _ => 0) ⟨#[], #[.slice none 0 0], []⟩).memory :=
  laidMet_of_run' 8 (by kernel_rfl) (by kernel_rfl)
theorem reads (os : Os) {H : Type} (enc : TypeId × Value → H) : ∃ places, DataW.whole enc Tryz.prog ((laidWorld os).forCall (fun _ _ => 0) ⟨#[], #[.slice none 0 0], []⟩).memory Tryz.f3.params.toList Rows.connPlaysSpec.vars false #[.slice none 0 0].toList 8 = some ([.nil], [], places) :=
  ⟨[], by kernel_rfl⟩
set_option maxRecDepth 100000 in
theorem lifted (os : Os) (started : os.Started) (H : Type) (enc : TypeId × Value → H) (F : Stop.Interp) :
    ReturnsInHanded {} Tryz.checked os 3 .any ((OpenSpec.ofChange Rows.connPlaysSpec).preRow enc Tryz.prog Tryz.f3 Rows.connPlaysRow.domain false Rows.connPlaysRow.laid) (((OpenSpec.ofChange Rows.connPlaysSpec).at F).post enc Tryz.prog Tryz.f3 false true false false) := by
  obtain ⟨places, hx⟩ := reads os enc
  refine returnsInHanded_of_row (C := Tryz.checked) (s := OpenSpec.ofChange Rows.connPlaysSpec) own started (by kernel_rfl) Tryz.func3
    (witness_row_atRef (enc := enc) (C := Tryz.checked) false (laidWorld os) #[.slice none 0 0] rfl (by kernel_rfl) (by kernel_rfl) (by kernel_rfl)
      (OpenSpec.preRow_of_cond 8 hx (by kernel_rfl) (fun k hk => by cases hk) (by kernel_rfl) (laid_met os))) ?_
  intro W base args ds gs before hval hW _ _ _ hL hSh _
  exact contract H enc W base args ds gs before hval hW hL hSh
theorem said : Rows.ConnPlaysSaid :=
  OpenClaim.holds_of_cond 3 Tryz.f3 rfl rfl rfl rfl rfl rfl rfl ⟨rfl, rfl, rfl, rfl, rfl⟩ rfl rfl rfl rfl rfl (by kernel_rfl) Tryz.func3 (by kernel_rfl)
    (of_decide_eq_true (by kernel_rfl)) (by unfold Func.isWrapper; first | (rw [if_pos (by decide +kernel)]; kernel_rfl) | (rw [if_neg (by decide +kernel)]; exact ⟨rfl, rfl⟩))
    (fun os started H enc _ F => by rw [OpenClaim.pre_eq_preRow]; exact lifted os started H enc F)
theorem plain (f : FuncId) (fn : Func) (hf : Tryz.pinned.checked.prog.funcNamed "ambry/ambrylaw22.ConnPlays" = some f) (hfn : Tryz.pinned.checked.prog.funcs[f]? = some fn) :
    true = Tryz.pinned.checked.prog.looks [] ∧ ∀ (j : Nat) t, fn.params[j]? = some t → Tryz.pinned.checked.prog.wantsStandIn t = false := by
  obtain rfl : f = 3 := Option.some.inj ((show Tryz.prog.funcNamed "ambry/ambrylaw22.ConnPlays" = some 3 by kernel_rfl).symm.trans hf) |>.symm
  obtain rfl : fn = Tryz.f3 := (Option.some.inj (Tryz.func3.symm.trans hfn)).symm
  refine ⟨by kernel_rfl, fun j t ht => ?_⟩
  rw [Tryz.params3] at ht
  have hm : t ∈ [22] := by simpa using Array.mem_of_getElem? ht
  have hall : ([22].all fun u => !Tryz.prog.wantsStandIn u) = true := by kernel_rfl
  exact (show Tryz.prog.wantsStandIn t = false by simpa using List.all_eq_true.1 hall t hm)
theorem card : Rows.ConnPlaysCardSaid :=
  Claim7.holds_tied_plain_at .later [] _ _ _ _ said (fun _ h => by cases h) (by kernel_rfl) (fun _ h => by cases h) connPlays_row_tie rfl ⟨rfl, rfl⟩ (by kernel_rfl) rfl plain (by kernel_rfl)
#print axioms card
end Go.Proofs.YtcbmlanpianclaaGreatDoor.lawConnPlays
