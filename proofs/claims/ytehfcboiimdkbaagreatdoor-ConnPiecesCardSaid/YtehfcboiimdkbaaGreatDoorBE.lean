/- A number's decimal text: strconv.FormatUint at base 10 and nums.Text return the decimal digits of any unsigned 64 bit number; old memory stays as it was. -/
import Derived.Test.YtehfcboiimdkbaaGreatDoorCShelf
import Derived.WalkKit
import Derived.Lib.Walk
import Derived.Lib.AppendIntMem
import Derived.BigCall
import Derived.BigGuard
import Derived.Test.YtehfcboiimdkbaaGreatDoorBA
import Derived.Outline
import Derived.Test.YtehfcboiimdkbaaGreatDoorCShelfN
import Derived.Test.YtehfcboiimdkbaaGreatDoorBC
import Derived.Shelf.Strings.SlTrimAscii
import Derived.WalkSmall
import Derived.WalkSpells
import Derived.LoopTactic
namespace Go.Proofs.YtehfcboiimdkbaaGreatDoor
set_option linter.unusedSimpArgs false
set_option linter.unusedVariables false
open Go.Shelf Go.RowKit Go.Sort Go.Lib
def Pow (w : World) : Prop := Lib.TabIs Tryz.prog w "internal/strconv.uint64pow10" .u64 Lib.pow10Tab
theorem Pow.below {w w' : World} (h : Pow w) (hb : Below w.heap.size w w') : Pow w' := Lib.tabBelow_of_tabIs h w' hb
end Go.Proofs.YtehfcboiimdkbaaGreatDoor
/- A number's decimal text in the reference: the recursive Text returns the decimal digits. -/
namespace Go.Proofs.YtehfcboiimdkbaaGreatDoor
set_option linter.unusedSimpArgs false
set_option linter.unusedVariables false
open Go.Shelf Go.RowKit Go.Lib
end Go.Proofs.YtehfcboiimdkbaaGreatDoor
/- The functions of package nums and of its reference: what each returns, as plain functions of a text's bytes. -/
namespace Go.Proofs.YtehfcboiimdkbaaGreatDoor
set_option linter.unusedSimpArgs false
set_option linter.unusedVariables false
open Go.Shelf Go.RowKit
structure Env (w : World) : Prop where
  pow : Pow w
  rng : ∃ tp p, w.var? Tryz.prog "strconv.ErrRange" = some #[.iface tp p]
theorem Env.below {w w' : World} (h : Env w) (hb : Below w.heap.size w w') : Env w' := by
  obtain ⟨tp, p, hv⟩ := h.rng
  have hg : Tryz.prog.globalNamed "strconv.ErrRange" = some 4 := by kernel_rfl
  refine ⟨h.pow.below hb, tp, p, var?_below hb hg ?_ hv⟩
  have hc := World.var?_cell hg hv 0
  have := Go.block_lt_of_cell (w := w) (a := ⟨4, 0, none⟩) (v := .iface tp p) (by rw [hc]; rfl)
  exact this
def isDgts (l : List UInt8) (most : Int) : Bool := !l.isEmpty && (decide ((l.length : Int) ≤ most) && allDgt l)
theorem zero83 : (Tryz.prog.info? 62).map (fun i => (i.zero, i.size)) = some (some (.agg (Array.replicate 256 (.bool false))), 256) := by kernel_rfl
set_option maxRecDepth 100000 in
theorem trimD (l : List UInt8) (hl : l.length ≤ 9223372036854775807) (w : World) :
    Calls Tryz.prog 86 #[.string ⟨l.toArray⟩, .string ⟨#[48, 49, 50, 51, 52, 53, 54, 55, 56, 57]⟩] w fun e w' => e = .returned (.string ⟨(Lib.trimS l tenDgts).toArray⟩) ∧ Below w.heap.size w w' :=
  Any.strings_Trim_laid Tryz.lays160 zero83 ⟨l.toArray⟩ ⟨#[48, 49, 50, 51, 52, 53, 54, 55, 56, 57]⟩ w (by simpa [ByteArray.size] using hl) (by decide) (ascii_of_all (by decide))
set_option maxHeartbeats 1000000 in
theorem digits (l : List UInt8) (hl : l.length ≤ 9223372036854775807) (most : Int) (w : World) :
    Calls Tryz.prog 64 #[.string ⟨l.toArray⟩, .int .i64 most] w fun e w' => e = .returned (.bool (isDgts l most)) ∧ Below w.heap.size w w' := by
  by_cases h0 : l = []
  · subst h0
    go_enter Tryz.func64, Tryz.ntmps64
    go_wp2_with fail
    go_ret
    exact ⟨rfl, Below.refl _ _⟩
  · have h0' : l.isEmpty = false := by simpa using h0
    by_cases h1 : (l.length : Int) ≤ most
    · have hfin : isDgts l most = allDgt l := by simp [isDgts, h0', h1]
      have H := fun w => trimD l hl w
      have ht := trim_digits l
      obtain ⟨t, e⟩ : ∃ t, t = Lib.trimS l tenDgts := ⟨_, rfl⟩
      rw [← e] at H ht
      rw [hfin, ← ht]
      have HH := Lib.hid H
      clear hfin H ht e
      have h0'' : ¬ l = [] := h0
      go_enter Tryz.func64, Tryz.ntmps64
      go_wp2_with fail
      refine (HH.out _).mono ?_
      rintro e w1 ⟨rfl, hb⟩
      by_cases ht : t = []
      · subst ht
        go_wp2_with fail
        go_ret
        exact ⟨rfl, hb⟩
      · have ht' : t.isEmpty = false := by simpa using ht
        go_wp2_with fail
        go_ret
        exact ⟨ret_bool ht'.symm, hb⟩
    · have hfin : isDgts l most = false := by simp [isDgts, h1]
      rw [hfin]
      have h1' : most < (l.length : Int) := by omega
      clear hfin
      go_enter Tryz.func64, Tryz.ntmps64
      go_wp2_with fail
      go_ret
      exact ⟨rfl, Below.refl _ _⟩
def parseR (l : List UInt8) : Value := .tuple #[.int .u64 ((parseV l).getD 0 : Nat), .bool (parseV l).isSome]
set_option maxHeartbeats 1000000 in
set_option maxRecDepth 100000 in
theorem parse (l : List UInt8) (hl : l.length ≤ 9223372036854775807) (w : World) (he : Env w) :
    Calls Tryz.prog 48 #[.string ⟨l.toArray⟩] w fun e w' => e = .returned (parseR l) ∧ Below w.heap.size w w' := by
  have D := Lib.hid (fun w => digits l (by omega) 20 w)
  by_cases hd : isDgts l 20 = true
  · have hd' := hd
    simp only [isDgts, Bool.and_eq_true, Bool.not_eq_true', List.isEmpty_eq_false_iff, decide_eq_true_eq] at hd'
    obtain ⟨h0, h1, h2⟩ := hd'
    have hs : (⟨l.toArray⟩ : ByteArray).data.toList = l := rfl
    rcases parseUintB_dgts l h0 h2 with ⟨h3, h4⟩ | ⟨h3, h4⟩
    · have hv : parseR l = .tuple #[.int .u64 (valOf l : Nat), .bool true] := by
        unfold parseR parseV; rw [if_pos ⟨h0, by omega, h2, h3⟩]; rfl
      have H := Lib.hid (fun w => Tryz.strconv_ParseUint_10_at64_ok ⟨l.toArray⟩ (by simp [ByteArray.size]; omega) (valOf l) h4 w)
      obtain ⟨u, hu⟩ : ∃ u, u = valOf l := ⟨_, rfl⟩
      rw [← hu] at hv H
      rw [hv]
      have HD := Lib.hid hd
      clear hd hs h4 h3 hu hv h0 h1 h2
      go_enter Tryz.func48, Tryz.ntmps48
      go_wp2_with fail
      refine (D.out _).mono ?_
      rintro e w1 ⟨rfl, hb⟩
      rw [HD.out]
      go_wp2_with fail
      refine (H.out _).mono ?_
      rintro e w2 ⟨rfl, hw⟩
      have hb2 : Below w1.heap.size w1 w2 := by
        rcases hw with rfl | rfl
        · exact Below.refl _ _
        · exact Lib.bytesWorld_below _ _ _
      clear hw
      go_wp2_with fail
      go_ret2
      exact ⟨rfl, hb.trans (hb2.mono hb.size)⟩
    · have hv : parseR l = .tuple #[.int .u64 0, .bool false] := by
        unfold parseR parseV; rw [if_neg (fun h => by omega)]; rfl
      have H := Lib.hid (fun w tp p hv => Tryz.strconv_ParseUint_10_at64_range_var ⟨l.toArray⟩ (by simp [ByteArray.size]; omega) h4 tp p w hv)
      rw [hv]
      have HD := Lib.hid hd
      clear hd hs h4 h3 hv h0 h1 h2
      go_enter Tryz.func48, Tryz.ntmps48
      go_wp2_with fail
      refine (D.out _).mono ?_
      rintro e w1 ⟨rfl, hb⟩
      rw [HD.out]
      obtain ⟨tp, p, hvar⟩ := (he.below hb).rng
      have hvar := Lib.hid hvar
      go_wp2_with fail
      refine (H.out _ _ _ hvar.out).mono ?_
      rintro e w2 ⟨N, rfl, _, _, hb2⟩
      go_wp2_with fail
      go_ret2
      exact ⟨rfl, hb.trans (hb2.mono hb.size)⟩
  · have hd' : isDgts l 20 = false := by simpa using hd
    have hv : parseR l = .tuple #[.int .u64 0, .bool false] := by
      unfold parseR parseV
      rw [if_neg (fun ⟨a, b, c, _⟩ => by
        rw [isDgts] at hd
        apply hd
        simp [a, c]; omega)]
      rfl
    rw [hv]
    have HD := Lib.hid hd'
    clear hd hd' hv
    go_enter Tryz.func48, Tryz.ntmps48
    go_wp2_with fail
    refine (D.out _).mono ?_
    rintro e w1 ⟨rfl, hb⟩
    rw [HD.out]
    go_wp2_with fail
    go_ret2
    exact ⟨rfl, hb⟩
end Go.Proofs.YtehfcboiimdkbaaGreatDoor
/- Signed: the program's and the reference's reader of numbers with a sign. -/
namespace Go.Proofs.YtehfcboiimdkbaaGreatDoor
set_option linter.unusedSimpArgs false
set_option linter.unusedVariables false
open Go.Shelf Go.RowKit
def signedR (l : List UInt8) : Value := .tuple #[.int .i64 ((signedV l).getD 0), .bool (signedV l).isSome]
theorem signedR_none {l : List UInt8} (h : signedV l = none) : signedR l = .tuple #[.int .i64 0, .bool false] := by unfold signedR; rw [h]; rfl
theorem signedR_some {l : List UInt8} {n : Int} (h : signedV l = some n) : signedR l = .tuple #[.int .i64 n, .bool true] := by unfold signedR; rw [h]; rfl
theorem unsig_len (l : List UInt8) : (unsig l).length ≤ l.length := by unfold unsig; split; simp; exact Nat.le_refl _
set_option maxHeartbeats 1000000 in
set_option maxRecDepth 100000 in
theorem signed (l : List UInt8) (hl : l.length ≤ 9223372036854775807) (w : World) (he : Env w) :
    Calls Tryz.prog 97 #[.string ⟨l.toArray⟩] w fun e w' => e = .returned (signedR l) ∧ Below w.heap.size w w' := by
  have hul := unsig_len l
  have D := Lib.hid (fun w => digits (unsig l) (by omega) 19 w)
  have T : ∀ w, Calls Tryz.prog 107 #[.string ⟨l.toArray⟩, .string ⟨#[45]⟩] w fun e w' => e = .returned (.string ⟨(unsig l).toArray⟩) ∧ w' = w := fun w => by
    have := Tryz.strings_TrimPrefix ⟨l.toArray⟩ ⟨#[45]⟩ w
    rw [show Lib.trimPrefix (⟨l.toArray⟩ : ByteArray).data.toList (⟨#[45]⟩ : ByteArray).data.toList = unsig l from trimDash l] at this
    exact this
  have T := Lib.hid T
  by_cases hd : isDgts (unsig l) 19 = true
  · have hd' := hd
    simp only [isDgts, Bool.and_eq_true, Bool.not_eq_true', List.isEmpty_eq_false_iff, decide_eq_true_eq] at hd'
    obtain ⟨h0, h1, h2⟩ := hd'
    have hl20 : l.length ≤ 20 := by
      have : l.length ≤ (unsig l).length + 1 := by unfold unsig; split <;> simp <;> omega
      omega
    rcases parseIntB_dgts l h0 (by omega) h2 with ⟨v, h3, h4⟩ | ⟨h3, h4⟩
    · rw [signedR_some h3]
      have H := Lib.hid (fun w => Tryz.strconv_ParseInt_10_at64_ok ⟨l.toArray⟩ (by simp [ByteArray.size]; omega) v h4 w)
      have HD := Lib.hid hd
      generalize unsig l = u at *
      clear hd h4 h3 h0 h1 h2 hl20
      go_enter Tryz.func97, Tryz.ntmps97
      go_wp2_with fail
      refine (T.out _).mono ?_
      rintro e w0 ⟨rfl, rfl⟩
      go_wp2_with fail
      refine (D.out _).mono ?_
      rintro e w1 ⟨rfl, hb⟩
      rw [HD.out]
      go_wp2_with fail
      refine (H.out _).mono ?_
      rintro e w2 ⟨rfl, hw⟩
      have hb2 : Below w1.heap.size w1 w2 := by
        rcases hw with rfl | ⟨t, rfl⟩
        · exact Below.refl _ _
        · exact Lib.bytesWorld_below _ _ _
      clear hw
      go_wp2_with fail
      go_ret2
      exact ⟨rfl, hb.trans (hb2.mono hb.size)⟩
    · rw [signedR_none h3]
      have H := Lib.hid (fun w tp p hv => Tryz.strconv_ParseInt_10_at64_range_var ⟨l.toArray⟩ (by simp [ByteArray.size]; omega) h4 tp p w hv)
      have HD := Lib.hid hd
      generalize unsig l = u at *
      clear hd h4 h3 h0 h1 h2 hl20
      go_enter Tryz.func97, Tryz.ntmps97
      go_wp2_with fail
      refine (T.out _).mono ?_
      rintro e w0 ⟨rfl, rfl⟩
      go_wp2_with fail
      refine (D.out _).mono ?_
      rintro e w1 ⟨rfl, hb⟩
      rw [HD.out]
      obtain ⟨tp, p, hvar⟩ := (he.below hb).rng
      have hvar := Lib.hid hvar
      go_wp2_with fail
      refine (H.out _ _ _ hvar.out).mono ?_
      rintro e w2 ⟨N, rfl, _, _, hb2⟩
      go_wp2_with fail
      go_ret2
      exact ⟨rfl, hb.trans (hb2.mono hb.size)⟩
  · have hd' : isDgts (unsig l) 19 = false := by simpa using hd
    have hv : signedV l = none := by
      unfold signedV
      rw [if_neg (fun ⟨a, b, c, _⟩ => by
        rw [isDgts] at hd
        apply hd
        simp [a, c]; omega)]
    rw [signedR_none hv]
    have HD := Lib.hid hd'
    generalize unsig l = u at *
    clear hd hd' hv
    go_enter Tryz.func97, Tryz.ntmps97
    go_wp2_with fail
    refine (T.out _).mono ?_
    rintro e w0 ⟨rfl, rfl⟩
    go_wp2_with fail
    refine (D.out _).mono ?_
    rintro e w1 ⟨rfl, hb⟩
    rw [HD.out]
    go_wp2_with fail
    go_ret2
    exact ⟨rfl, hb⟩
end Go.Proofs.YtehfcboiimdkbaaGreatDoor
