/- Two rows of texts are held against each other, text by text. -/
import Derived.Test.YtjfkfnlnjklcdaaDoorLines
import Derived.Deep.QuietTactic
import Derived.BigQuiet
namespace Go.Proofs.YtjfkfnlnjklcdaaDoor
open Go.RowKit

/-- a slice whose cells are these texts -/
def Txts (w : World) (v : Value) (l : List (List UInt8)) : Prop := ∃ a c, v = .slice a l.length c ∧ ∀ k s, l[k]? = some s → ∃ ad, a = some ad ∧ w.cell? (ad.add k) = some (.string ⟨s.toArray⟩)
theorem txts_own {w : World} {B : Nat} {e : TypeId} {v : Value} {l : List (List UInt8)} (h : w.ownsRow B e 1 v l.length (strs l)) : ∃ a c, v = .slice a l.length c ∧ ∀ k s, l[k]? = some s → ∃ b, a = some ⟨b, 0, none⟩ ∧ w.cell? ⟨b, k, none⟩ = some (.string ⟨s.toArray⟩) ∧ B ≤ b ∧ b < w.heap.size := by
  have h0 := h
  obtain ⟨hl, ⟨rfl, hx⟩ | ⟨g, cap, cur, hv, hB, hh, _⟩⟩ := h
  · have hl0 : l = [] := List.eq_nil_of_length_eq_zero hx
    subst hl0
    exact ⟨none, 0, rfl, fun k s h => by simp at h⟩
  · refine ⟨_, _, hv, fun k s hk => ⟨g, rfl, ?_, hB, ?_⟩⟩
    · have := World.ownsRow.cells h0 (g := g) (by rw [hv]; rfl) k _ (strs_get l k s hk)
      rw [Go.Lib.add_plain] at this
      simpa using this
    · rcases Nat.lt_or_ge g w.heap.size with h1 | h1
      · exact h1
      · rw [Array.getElem?_eq_none h1] at hh; cases hh

set_option maxHeartbeats 2000000 in
/-- ambryref02.Same, of two rows of texts of one length -/
theorem same_eq (l m : List (List UInt8)) (hlen : l.length = m.length) (hmax : l.length ≤ 1000000) (a b : Option Addr) (c d : Nat) (w : World)
    (hl : ∀ k s, l[k]? = some s → ∃ g, a = some ⟨g, 0, none⟩ ∧ w.cell? ⟨g, k, none⟩ = some (.string ⟨s.toArray⟩))
    (hm : ∀ k s, m[k]? = some s → ∃ g, b = some ⟨g, 0, none⟩ ∧ w.cell? ⟨g, k, none⟩ = some (.string ⟨s.toArray⟩)) :
    Calls Tryd.prog 20 #[.slice a l.length c, .slice b m.length d] w fun e w' => e = .returned (.bool (l == m)) ∧ ∃ n, w' = w.drewN n := by
  obtain ⟨n, hn⟩ : ∃ n, n = l.length := ⟨_, rfl⟩
  have hn2 : n = m.length := hn.trans hlen
  rw [← hlen, ← hn]
  have HN := Lib.hid hn; have HN2 := Lib.hid hn2; clear hn hn2 hlen
  have hmax' : n ≤ 1000000 := by rw [HN.out]; exact hmax
  go_enter Tryd.func20, Tryd.ntmps20
  go_wp2
  go_loopw [5] (fun i wr => ∃ k : Nat, k ≤ n ∧ i = .int .i64 k ∧ (∀ j, j < k → l[j]? = m[j]?) ∧ ∃ q, wr = w.drewN q) (fun i _ => n - (intOf i).toNat)
  case atStart => exact ⟨0, Nat.zero_le _, rfl, fun j hj => absurd hj (by omega), 0, by simp [World.drewN_zero]⟩
  case round =>
    obtain ⟨k, hk, rfl, hpre, q, rfl⟩ := hrel
    by_cases hlt : k < n
    · obtain ⟨s, hs⟩ : ∃ s, l[k]? = some s := ⟨l[k]'(by rw [← HN.out]; exact hlt), List.getElem?_eq_getElem _⟩
      obtain ⟨t, ht⟩ : ∃ s, m[k]? = some s := ⟨m[k]'(by rw [← HN2.out]; exact hlt), List.getElem?_eq_getElem _⟩
      obtain ⟨g, rfl, hc1⟩ := hl k s hs
      obtain ⟨g2, rfl, hc2⟩ := hm k t ht
      have HS := Lib.hid hs; have HT := Lib.hid ht; have HP := Lib.hid hpre; have HL := Lib.hid hl; have HM := Lib.hid hm
      clear hs ht hpre hl hm
      have hlt' : (k : Int) < (n : Int) := by omega
      have hk0 : (0 : Int) ≤ (k : Int) := by omega
      by_cases hst : s = t
      · subst hst
        go_wp2_with fail
        go_quiet (fail)
        go_wp2_with fail
        go_roundw
        case rel =>
          refine ⟨k + 1, by omega, by go_num, fun j hj => ?_, _, rfl⟩
          rcases Nat.lt_or_ge j k with h | h
          · exact HP.out j h
          · obtain rfl : j = k := by omega
            rw [HS.out, HT.out]
        case measure => simp [intOf]; omega
      · have hst' : (s == t) = false := by simpa using hst
        have hfin : (l == m) = false := by
          rw [beq_eq_false_iff_ne]
          intro e
          apply hst
          have h1 := HS.out
          rw [e, HT.out] at h1
          exact (Option.some.inj h1).symm
        have HF := Lib.hid hfin
        clear hfin hst
        go_wp2_with fail
        go_quiet (fail)
        go_wp2_with fail
        go_ret
        refine ⟨?_, _, World.drewN_drewN _ _ _⟩
        rw [HF.out]
        rfl
    · have hfin : (l == m) = true := by
        rw [beq_iff_eq]
        apply List.ext_getElem?
        intro j
        rcases Nat.lt_or_ge j k with h | h
        · exact hpre j h
        · rw [List.getElem?_eq_none (by rw [← HN.out]; omega), List.getElem?_eq_none (by rw [← HN2.out]; omega)]
      have HF := Lib.hid hfin
      clear hfin
      obtain rfl : k = n := by omega
      have HP := Lib.hid hpre; have HL := Lib.hid hl; have HM := Lib.hid hm
      clear hpre hl hm
      go_wp2_with fail
      go_ret
      refine ⟨?_, _, rfl⟩
      rw [HF.out]
      rfl
end Go.Proofs.YtjfkfnlnjklcdaaDoor
