/- ModelLooks: whatever the input the call returns true, and each argument reads afterwards as it read before. Conditions: the listed package variables hold what the program's text zM (the card ties them to the text). -/
import Derived.Test.YtfmpdbngpknmaaaDoorCards
import Derived.Test.YtfmpdbngpknmaaaDoorTie
import Derived.Test.YtfmpdbngpknmaaaDoorBK
import Derived.Test.YtfmpdbngpknmaaaDoorCLooksW
import Derived.Deep.DeepWitnessRowRef
import Derived.SevenTiedAt
namespace Go.Proofs.YtfmpdbngpknmaaaDoor.lawModelLooks
set_option linter.unusedSimpArgs false
set_option linter.unusedVariables false
open Go.ChangeShapes Go.WideShapes Go.ChangeAt Go.RowKit
open Go.ChangeMaps (open_string)

theorem own : ownKnob Tryd.prog.godebug = none := by kernel_rfl

set_option maxRecDepth 100000 in
theorem contract (H : Type) (enc : TypeId × Value → H) (W : World) (base : Nat) (args : Array Value) (ds gs : List (DataW H)) (before : List MemPlace)
    (hval : ∀ (j : Nat) t v, Tryd.f10.params[j]? = some t → args[j]? = some v → Value.okWide Tryd.prog W .any base t v)
    (hW : DataW.Whole enc Tryd.prog Tryd.f10.params.toList Rows.modelLooksSpec.vars false W args.toList ds gs before) (hL : laidMetH Tryd.prog Rows.modelLooksRow.laid W) :
    Calls Tryd.prog 10 args W fun e W' => ∃ v, e = .returned v ∧ Rows.modelLooksSpec.post enc Tryd.prog Tryd.f10 false true false false W args v W' := by
  have hW' := hW
  obtain ⟨p, q, hA0, hV, hpq, hfz, hnd⟩ := hW
  have hA : DataW.TrodAll enc Tryd.prog W 0 (fun _ => true) true Tryd.f10.params.toList args.toList ds p := hA0
  rw [Tryd.params10] at hA hval
  obtain ⟨v0, vs0, d0, ds0, p0, q0, hargs0, hds0, hps0, h0, r0⟩ := trodAll_cons hA
  obtain ⟨v1, vs1, d1, ds1, p1, q1, hargs1, hds1, hps1, h1, r1⟩ := trodAll_cons r0
  obtain ⟨hvs, hdn, hpn⟩ := trodAll_nil r1
  have hargs : args.toList = [v0, v1] := by rw [hargs0, hargs1, hvs]
  have hds : ds = [d0, d1] := by rw [hds0, hds1, hdn]
  have hargs' : args = #[v0, v1] := by apply Array.toList_inj.1; rw [hargs]
  have hgs : gs = [] := (trodVars_none hV).1
  have hfn : Rows.modelLooksSpec.fn H (ds ++ gs) = { results := [.lit (.bool true)], args := ds } := by rw [hds, hgs]; rfl
  have fin : ∀ W', Below W.heap.size W W' → Rows.modelLooksSpec.post enc Tryd.prog Tryd.f10 false true false false W args (.bool true) W' := fun W' hb =>
    law_post (tb := 4) (by kernel_rfl) (by kernel_rfl) (by kernel_rfl) Tryd.underlying4 rfl hW' hfn hb
  subst hargs'
  obtain ⟨A, n, c, cs, rfl, hn, kA⟩ := open_cmdl (hval 0 42 v0 rfl rfl) h0
  obtain ⟨s1, hx1, _, _, hs1⟩ := open_string Tryd.underlying9 (hval 1 9 v1 rfl rfl) h1
  subst hx1
  obtain ⟨⟨l1⟩⟩ := s1
  have henv : Env W := env_of_laid (show laidMet Tryd.prog Rows.modelLooksRow.laid W from hL)
  have walk := looks_walk A n c cs l1 hs1 hn W kA henv

  refine walk.mono fun e W' ⟨he, hb⟩ => ?_
  exact ⟨_, he, fin W' hb⟩

/-- A world for the witness: what the program's own initialisers lay. -/
noncomputable def laidWorld (os : Os) : World := Go.Proofs.YtfmpdbngpknmaaaDoor.laidWorld os
theorem laid_met (os : Os) : laidMet Tryd.prog Rows.modelLooksRow.laid ((laidWorld os).forCall (fun _ _ => 0) ⟨#[], #[.slice none 0 0, .string ⟨#[]⟩], []⟩).memory :=
  laidMet_of_run' 8 (by kernel_rfl) (by kernel_rfl)
theorem reads (os : Os) {H : Type} (enc : TypeId × Value → H) : ∃ places, DataW.whole enc Tryd.prog ((laidWorld os).forCall (fun _ _ => 0) ⟨#[], #[.slice none 0 0, .string ⟨#[]⟩], []⟩).memory Tryd.f10.params.toList Rows.modelLooksSpec.vars false #[.slice none 0 0, .string ⟨#[]⟩].toList 8 = some ([.nil, .lit (.string [])], [], places) :=
  ⟨[], by kernel_rfl⟩

set_option maxRecDepth 100000 in
theorem lifted (os : Os) (started : os.Started) (H : Type) (enc : TypeId × Value → H) (F : Stop.Interp) :
    ReturnsInHanded {} Tryd.checked os 10 .any ((OpenSpec.ofChange Rows.modelLooksSpec).preRow enc Tryd.prog Tryd.f10 Rows.modelLooksRow.domain false Rows.modelLooksRow.laid) (((OpenSpec.ofChange Rows.modelLooksSpec).at F).post enc Tryd.prog Tryd.f10 false true false false) := by
  obtain ⟨places, hx⟩ := reads os enc
  refine returnsInHanded_of_row (C := Tryd.checked) (s := OpenSpec.ofChange Rows.modelLooksSpec) own started (by kernel_rfl) Tryd.func10
    (witness_row_atRef (enc := enc) (C := Tryd.checked) false (laidWorld os) #[.slice none 0 0, .string ⟨#[]⟩] rfl (by kernel_rfl) (by kernel_rfl) (by kernel_rfl)
      (OpenSpec.preRow_of_cond 8 hx (by kernel_rfl) (fun k hk => by cases hk) (by kernel_rfl) (laid_met os))) ?_
  intro W base args ds gs before hval hW _ _ _ hL _ _
  exact contract H enc W base args ds gs before hval hW hL

theorem said : Rows.ModelLooksSaid :=
  OpenClaim.holds_of_cond 10 Tryd.f10 rfl rfl rfl rfl rfl rfl rfl ⟨rfl, rfl, rfl, rfl, rfl⟩ rfl rfl rfl rfl rfl (by kernel_rfl) Tryd.func10 (by kernel_rfl)
    (of_decide_eq_true (by kernel_rfl)) (by unfold Func.isWrapper; first | (rw [if_pos (by decide +kernel)]; kernel_rfl) | (rw [if_neg (by decide +kernel)]; exact ⟨rfl, rfl⟩))
    (fun os started H enc _ F => by rw [OpenClaim.pre_eq_preRow]; exact lifted os started H enc F)

theorem plain (f : FuncId) (fn : Func) (hf : Tryd.pinned.checked.prog.funcNamed "ambry/ambrylaw16.ModelLooks" = some f) (hfn : Tryd.pinned.checked.prog.funcs[f]? = some fn) :
    true = Tryd.pinned.checked.prog.looks [] ∧ ∀ (j : Nat) t, fn.params[j]? = some t → Tryd.pinned.checked.prog.wantsStandIn t = false := by
  obtain rfl : f = 10 := Option.some.inj ((show Tryd.prog.funcNamed "ambry/ambrylaw16.ModelLooks" = some 10 by kernel_rfl).symm.trans hf) |>.symm
  obtain rfl : fn = Tryd.f10 := (Option.some.inj (Tryd.func10.symm.trans hfn)).symm
  refine ⟨by kernel_rfl, fun j t ht => ?_⟩
  rw [Tryd.params10] at ht
  have hm : t ∈ [42, 9] := by simpa using Array.mem_of_getElem? ht
  have hall : ([42, 9].all fun u => !Tryd.prog.wantsStandIn u) = true := by kernel_rfl
  exact (show Tryd.prog.wantsStandIn t = false by simpa using List.all_eq_true.1 hall t hm)

theorem card : Rows.ModelLooksCardSaid :=
  Claim7.holds_tied_plain_at .later [] _ _ _ _ said (fun _ h => by cases h) (by kernel_rfl) (fun _ h => by cases h) modelLooks_row_tie rfl ⟨rfl, rfl⟩ (by kernel_rfl) rfl plain (by kernel_rfl)
#print axioms card
end Go.Proofs.YtfmpdbngpknmaaaDoor.lawModelLooks
