/- NumsOrder, NumsSums and NumsUndo: the walks. -/
import Derived.Test.YtjfkfnlnjklcdaaDoorAddSub
import Derived.Test.YtjfkfnlnjklcdaaDoorNumLawB
import Derived.WalkLawsBesides
namespace Go.Proofs.YtjfkfnlnjklcdaaDoor
open Go.Shelf Go.RowKit


set_option maxHeartbeats 1000000 in
theorem order_walk (a b : Int) (a0 : 0 ≤ a) (a1 : a < 18446744073709551616) (b0 : 0 ≤ b) (b1 : b < 18446744073709551616) (w : World) (he : Env w) :
    Calls Tryd.prog 7 #[.int .u64 a, .int .u64 b] w fun e w' => e = .returned (.bool true) ∧ Below w.heap.size w w' := by
  have HA := fun w htab => textI a a0 a1 w htab
  have HB := fun w htab => textI b b0 b1 w htab
  have ho := order_num a.toNat b.toNat
  have hq : (a == b) = (decI a == decI b) := by
    rw [Bool.eq_iff_iff, beq_iff_eq, beq_iff_eq]
    exact ⟨fun h => by rw [h], fun h => by have := dec_inj h; omega⟩
  rw [show decide (a.toNat < b.toNat) = decide (a < b) from decide_eq_decide.2 (by omega)] at ho
  change decide (a < b) = (decide ((decI a).length < (decI b).length) || (decide ((decI a).length = (decI b).length) && Op.bytesLess (decI a) (decI b))) at ho
  generalize decI a = S at *
  generalize decI b = T at *
  have H1 := Lib.hid HA; have H2 := Lib.hid HB; have HO := Lib.hid ho; have HE := Lib.hid hq; clear HA HB ho hq
  clear a0 a1 b0 b1
  go_enter Tryd.func7, Tryd.ntmps7
  go_wp2_with fail
  refine (nshown w he).mono ?_
  rintro e w1 ⟨rfl, b1⟩
  have he1 := he.below b1
  go_wp2_with fail
  refine (H1.out _ he1.pow).mono ?_
  rintro e w2 ⟨rfl, b2⟩
  have he2 := he1.below b2
  go_wp2_with fail
  refine (H2.out _ he2.pow).mono ?_
  rintro e w3 ⟨rfl, b3⟩
  have hfin := b1.trans ((b2.mono b1.size).trans (b3.mono (Nat.le_trans b1.size b2.size)))
  go_wp2_with fail
  · go_ret
    exact ⟨ret_bool (by rw [HE.out]; simp), hfin⟩
  · exfalso
    have h : ¬ (decide (a < b) = (decide (S.length < T.length) || Op.bytesLess S T)) := by assumption
    have e : (S.length : Int) = (T.length : Int) := by assumption
    apply h
    rw [HO.out, decide_eq_true (show S.length = T.length by omega), Bool.true_and]
  · go_ret
    exact ⟨ret_bool (by rw [HE.out]; simp), hfin⟩
  · exfalso
    have h : ¬ (a < b ↔ S.length < T.length) := by assumption
    have e : ¬ (S.length : Int) = (T.length : Int) := by assumption
    apply h
    have h2 := HO.out
    rw [decide_eq_false (show ¬ S.length = T.length by omega), Bool.false_and, Bool.or_false] at h2
    exact decide_eq_decide.1 h2
  · go_ret
    exact ⟨ret_bool (by rw [HE.out]; simp), hfin⟩
  · exfalso
    have h : b ≤ a := by assumption
    have e : ¬ T.length ≤ S.length := by assumption
    have h2 := HO.out
    rw [decide_eq_false (show ¬ a < b by omega), decide_eq_true (show S.length < T.length by omega)] at h2
    cases h2

theorem two_form (l : List UInt8) (d : Int) : (∃ (s : List UInt8) (b : Bool), addR l d = .tuple #[.string ⟨s.toArray⟩, .bool b]) ∧ (∃ (s : List UInt8) (b : Bool), subR l d = .tuple #[.string ⟨s.toArray⟩, .bool b]) := by
  unfold addR subR
  cases parseV l with
  | none => exact ⟨⟨[], false, rfl⟩, [], false, rfl⟩
  | some n => exact ⟨⟨_, true, rfl⟩, _, true, rfl⟩

set_option maxHeartbeats 1000000 in
theorem sums_walk (l : List UInt8) (hl : l.length ≤ 9223372036854775807) (d : Int) (d0 : 0 ≤ d) (d1 : d < 18446744073709551616) (w : World) (he : Env w) :
    Calls Tryd.prog 8 #[.string ⟨l.toArray⟩, .int .u64 d] w fun e w' => e = .returned (.bool true) ∧ Below w.heap.size w w' := by
  have HA := fun w he => add l hl d d0 d1 w he
  have HRA := fun w => radd l hl d d0 d1 w
  have HS := fun w he => sub l hl d d0 d1 w he
  have HRS := fun w => rsub l hl d d0 d1 w
  obtain ⟨⟨s, x, e1⟩, t, y, e2⟩ := two_form l d
  rw [e1] at HA HRA; rw [e2] at HS HRS
  have A1 := Lib.hid HA; have A2 := Lib.hid HRA; have A3 := Lib.hid HS; have A4 := Lib.hid HRS
  clear HA HRA HS HRS e1 e2 d0 d1
  go_enter Tryd.func8, Tryd.ntmps8
  go_wp2_with fail
  refine (nshown w he).mono ?_
  rintro e w1 ⟨rfl, b1⟩
  have he1 := he.below b1
  go_wp2_with fail
  refine (A1.out _ he1).mono ?_
  rintro e w2 ⟨rfl, b2⟩
  go_wp2_with fail
  refine (A2.out _).mono ?_
  rintro e w3 ⟨rfl, b3⟩
  have he3 := (he1.below b2).below b3
  go_wp2_with fail
  refine (A3.out _ he3).mono ?_
  rintro e w4 ⟨rfl, b4⟩
  go_wp2_with fail
  refine (A4.out _).mono ?_
  rintro e w5 ⟨rfl, b5⟩
  have hfin : Below w.heap.size w w5 := (((((Upd.refl Non w).below b1).below b2).below b3).below b4).below b5 |>.to_below
  go_wp2_with fail
  go_ret
  exact ⟨rfl, hfin⟩

theorem addR_dec (n d : Int) (n0 : 0 ≤ n) (n1 : n < 18446744073709551616) : addR (decI n) d = .tuple #[.string ⟨(decI (IntKind.u64.wrap (n + d))).toArray⟩, .bool true] := by
  unfold addR decI
  rw [parseV_dec n.toNat (by omega)]
  simp only [show ((n.toNat : Nat) : Int) = n by omega]
theorem subR_dec (n d : Int) (n0 : 0 ≤ n) (n1 : n < 18446744073709551616) : subR (decI n) d = .tuple #[.string ⟨(decI (n - min n d)).toArray⟩, .bool true] := by
  unfold subR decI
  rw [parseV_dec n.toNat (by omega)]
  simp only [show ((n.toNat : Nat) : Int) = n by omega]
theorem decI_len' (n : Int) (n0 : 0 ≤ n) (n1 : n < 18446744073709551616) : (decI n).length ≤ 9223372036854775807 := by have := (decI_len n0 n1).2; omega

set_option maxHeartbeats 1000000 in
theorem undo_lo (n d : Int) (n0 : 0 ≤ n) (n1 : n < 18446744073709551616) (d0 : 0 ≤ d) (d1 : d < 18446744073709551616) (h : n + d < 18446744073709551616) (w : World) (he : Env w) :
    Calls Tryd.prog 9 #[.int .u64 n, .int .u64 d] w fun e w' => e = .returned (.bool true) ∧ Below w.heap.size w w' := by
  have T1 := fun w htab => textI n n0 n1 w htab
  have T2 := fun w htab => textI (n + d) (by omega) (by omega) w htab
  have A1 := fun w he => add (decI n) (decI_len' n n0 n1) d d0 d1 w he
  have hw : IntKind.u64.wrap (n + d) = (n + d) := by rw [IntKind.wrap_u64]; omega
  rw [addR_dec n d n0 n1, hw] at A1
  have S1 := fun w he => sub (decI (n + d)) (decI_len' (n + d) (by omega) (by omega)) d d0 d1 w he
  rw [subR_dec (n + d) d (by omega) (by omega), show (n + d) - min (n + d) d = n by omega] at S1
  
  have ht : d ≤ 18446744073709551615 - n := by omega
  
  generalize hS : decI (n + d) = S at *
  generalize hN : decI n = N at *
  have B1 := Lib.hid T1; have B2 := Lib.hid T2; have B3 := Lib.hid A1; have B4 := Lib.hid S1
  have HW := Lib.hid hw
  clear T1 T2 A1 S1 hS hN hw h
  go_enter Tryd.func9, Tryd.ntmps9
  go_wp2_with fail
  refine (nshown w he).mono ?_
  rintro e w1 ⟨rfl, b1⟩
  have he1 := he.below b1
  go_wp2_with fail
  refine (B1.out _ he1.pow).mono ?_
  rintro e w2 ⟨rfl, b2⟩
  have he2 := he1.below b2
  go_wp2_with fail
  refine (B3.out _ he2).mono ?_
  rintro e w3 ⟨rfl, b3⟩
  have he3 := he2.below b3
  go_wp2_with fail
  refine (B4.out _ he3).mono ?_
  rintro e w4 ⟨rfl, b4⟩
  have he4 := he3.below b4
  have u4 := ((((Upd.refl Non w).below b1).below b2).below b3).below b4
  go_wp2_with fail
  refine (B1.out _ he4.pow).mono ?_
  rintro e w5 ⟨rfl, b5⟩
  have he5 := he4.below b5
  have u5 := u4.below b5
  go_wp2_with fail
  refine (B2.out _ he5.pow).mono ?_
  rintro e w6 ⟨rfl, b6⟩
  have hfin := (u5.below b6).to_below
  go_wp2_with fail
  go_ret
  exact ⟨rfl, hfin⟩

set_option maxHeartbeats 1000000 in
theorem undo_hi (n d : Int) (n0 : 0 ≤ n) (n1 : n < 18446744073709551616) (d0 : 0 ≤ d) (d1 : d < 18446744073709551616) (h : 18446744073709551616 ≤ n + d) (w : World) (he : Env w) :
    Calls Tryd.prog 9 #[.int .u64 n, .int .u64 d] w fun e w' => e = .returned (.bool true) ∧ Below w.heap.size w w' := by
  have T1 := fun w htab => textI n n0 n1 w htab
  have T2 := fun w htab => textI (n + d - 18446744073709551616) (by omega) (by omega) w htab
  have A1 := fun w he => add (decI n) (decI_len' n n0 n1) d d0 d1 w he
  have hw : IntKind.u64.wrap (n + d) = (n + d - 18446744073709551616) := by rw [IntKind.wrap_u64]; omega
  rw [addR_dec n d n0 n1, hw] at A1
  have S1 := fun w he => sub (decI (n + d - 18446744073709551616)) (decI_len' (n + d - 18446744073709551616) (by omega) (by omega)) d d0 d1 w he
  rw [subR_dec (n + d - 18446744073709551616) d (by omega) (by omega), show (n + d - 18446744073709551616) - min (n + d - 18446744073709551616) d = 0 by omega] at S1
  have e0 : decI 0 = [48] := by decide +kernel
  rw [e0] at S1
  have ht : 18446744073709551615 - n < d := by omega
  have hww : IntKind.u64.wrap (n + d) = n + d - 18446744073709551616 := hw
  generalize hS : decI (n + d - 18446744073709551616) = S at *
  generalize hN : decI n = N at *
  have B1 := Lib.hid T1; have B2 := Lib.hid T2; have B3 := Lib.hid A1; have B4 := Lib.hid S1
  have HW := Lib.hid hw
  clear T1 T2 A1 S1 hS hN hw hww e0 h
  go_enter Tryd.func9, Tryd.ntmps9
  go_wp2_with fail
  refine (nshown w he).mono ?_
  rintro e w1 ⟨rfl, b1⟩
  have he1 := he.below b1
  go_wp2_with fail
  refine (B1.out _ he1.pow).mono ?_
  rintro e w2 ⟨rfl, b2⟩
  have he2 := he1.below b2
  go_wp2_with fail
  refine (B3.out _ he2).mono ?_
  rintro e w3 ⟨rfl, b3⟩
  have he3 := he2.below b3
  go_wp2_with fail
  refine (B4.out _ he3).mono ?_
  rintro e w4 ⟨rfl, b4⟩
  have he4 := he3.below b4
  have u4 := ((((Upd.refl Non w).below b1).below b2).below b3).below b4
  go_wp2_with fail
  rw [HW.out]
  refine (B2.out _ he4.pow).mono ?_
  rintro e w6 ⟨rfl, b6⟩
  have hfin := (u4.below b6).to_below
  go_wp2_with fail
  go_ret
  exact ⟨rfl, hfin⟩
end Go.Proofs.YtjfkfnlnjklcdaaDoor
