/- Signed: the program's and the reference's reader of numbers with a sign. -/
import Derived.Test.YtjfkfnlnjklcdaaDoorAddSub
import Derived.Test.YtjfkfnlnjklcdaaDoorSigLaw
namespace Go.Proofs.YtjfkfnlnjklcdaaDoor
open Go.Shelf Go.RowKit

/-- what Signed returns -/
def signedR (l : List UInt8) : Value := .tuple #[.int .i64 ((signedV l).getD 0), .bool (signedV l).isSome]
theorem signedR_none {l : List UInt8} (h : signedV l = none) : signedR l = .tuple #[.int .i64 0, .bool false] := by unfold signedR; rw [h]; rfl
theorem signedR_some {l : List UInt8} {n : Int} (h : signedV l = some n) : signedR l = .tuple #[.int .i64 n, .bool true] := by unfold signedR; rw [h]; rfl
theorem unsig_len (l : List UInt8) : (unsig l).length ≤ l.length := by unfold unsig; split; simp; exact Nat.le_refl _

set_option maxHeartbeats 1000000 in
set_option maxRecDepth 100000 in
theorem signed (l : List UInt8) (hl : l.length ≤ 9223372036854775807) (w : World) (he : Env w) :
    Calls Tryd.prog 31 #[.string ⟨l.toArray⟩] w fun e w' => e = .returned (signedR l) ∧ Below w.heap.size w w' := by
  have hul := unsig_len l
  have D := Lib.hid (fun w => digits (unsig l) (by omega) 19 w)
  have T : ∀ w, Calls Tryd.prog 41 #[.string ⟨l.toArray⟩, .string ⟨#[45]⟩] w fun e w' => e = .returned (.string ⟨(unsig l).toArray⟩) ∧ w' = w := fun w => by
    have := Tryd.strings_TrimPrefix ⟨l.toArray⟩ ⟨#[45]⟩ w
    rw [show Lib.trimPrefix (⟨l.toArray⟩ : ByteArray).data.toList (⟨#[45]⟩ : ByteArray).data.toList = unsig l from trimDash l] at this
    exact this
  have T := Lib.hid T
  by_cases hd : isDgts (unsig l) 19 = true
  · have hd' := hd
    simp only [isDgts, Bool.and_eq_true, Bool.not_eq_true', List.isEmpty_eq_false_iff, decide_eq_true_eq] at hd'
    obtain ⟨h0, h1, h2⟩ := hd'
    have hl20 : l.length ≤ 20 := by
      have : l.length ≤ (unsig l).length + 1 := by unfold unsig; split <;> simp <;> omega
      omega
    rcases parseIntB_dgts l h0 (by omega) h2 with ⟨v, h3, h4⟩ | ⟨h3, h4⟩
    · rw [signedR_some h3]
      have H := Lib.hid (fun w => Tryd.strconv_ParseInt_10_at64_ok ⟨l.toArray⟩ (by simp [ByteArray.size]; omega) v h4 w)
      have HD := Lib.hid hd
      generalize unsig l = u at *
      clear hd h4 h3 h0 h1 h2 hl20
      go_enter Tryd.func31, Tryd.ntmps31
      go_wp2_with fail
      refine (T.out _).mono ?_
      rintro e w0 ⟨rfl, rfl⟩
      go_wp2_with fail
      refine (D.out _).mono ?_
      rintro e w1 ⟨rfl, hb⟩
      rw [HD.out]
      go_wp2_with fail
      refine (H.out _).mono ?_
      rintro e w2 ⟨rfl, hw⟩
      have hb2 : Below w1.heap.size w1 w2 := by
        rcases hw with rfl | ⟨t, rfl⟩
        · exact Below.refl _ _
        · exact Lib.bytesWorld_below _ _ _
      clear hw
      go_wp2_with fail
      go_ret2
      exact ⟨rfl, hb.trans (hb2.mono hb.size)⟩
    · rw [signedR_none h3]
      have H := Lib.hid (fun w tp p hv => Tryd.strconv_ParseInt_10_at64_range_var ⟨l.toArray⟩ (by simp [ByteArray.size]; omega) h4 tp p w hv)
      have HD := Lib.hid hd
      generalize unsig l = u at *
      clear hd h4 h3 h0 h1 h2 hl20
      go_enter Tryd.func31, Tryd.ntmps31
      go_wp2_with fail
      refine (T.out _).mono ?_
      rintro e w0 ⟨rfl, rfl⟩
      go_wp2_with fail
      refine (D.out _).mono ?_
      rintro e w1 ⟨rfl, hb⟩
      rw [HD.out]
      obtain ⟨tp, p, hvar⟩ := (he.below hb).rng
      have hvar := Lib.hid hvar
      go_wp2_with fail
      refine (H.out _ _ _ hvar.out).mono ?_
      rintro e w2 ⟨N, rfl, _, _, hb2⟩
      go_wp2_with fail
      go_ret2
      exact ⟨rfl, hb.trans (hb2.mono hb.size)⟩
  · have hd' : isDgts (unsig l) 19 = false := by simpa using hd
    have hv : signedV l = none := by
      unfold signedV
      rw [if_neg (fun ⟨a, b, c, _⟩ => by
        rw [isDgts] at hd
        apply hd
        simp [a, c]; omega)]
    rw [signedR_none hv]
    have HD := Lib.hid hd'
    generalize unsig l = u at *
    clear hd hd' hv
    go_enter Tryd.func31, Tryd.ntmps31
    go_wp2_with fail
    refine (T.out _).mono ?_
    rintro e w0 ⟨rfl, rfl⟩
    go_wp2_with fail
    refine (D.out _).mono ?_
    rintro e w1 ⟨rfl, hb⟩
    rw [HD.out]
    go_wp2_with fail
    go_ret2
    exact ⟨rfl, hb⟩
end Go.Proofs.YtjfkfnlnjklcdaaDoor
