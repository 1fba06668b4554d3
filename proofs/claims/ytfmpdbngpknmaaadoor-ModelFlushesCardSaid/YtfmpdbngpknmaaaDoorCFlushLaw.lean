/- ModelFlushes: what each step comes to. No program in sight. -/
import Derived.Test.YtfmpdbngpknmaaaDoorBJ
namespace Go.Proofs.YtfmpdbngpknmaaaDoor
set_option linter.unusedSimpArgs false
set_option linter.unusedVariables false

def flA (last : Int) : It := ⟨[97], 0, [49], 0, 1, last, false, false⟩
def flB (cas last : Int) : It := ⟨[98], 0, [49], 0, cas, last, false, false⟩
def flC (sec : Int) : Cd := ⟨6, 0, [], [], 0, sec, false, 0, false, 0, 0, false, false, 0, -1, false⟩
theorem app_lit {X : St} {now : Int} {c : Cd} {most : Int} (h : mayB c = true) (h0 : 1 ≤ now) (h1 : now ≤ 1099511627776) : applyF X now c most = doF (liveF X now) now c most (atF (liveF X now).items c.key) (isF (liveF X now).items c.key) := by
  unfold applyF; rw [if_pos ⟨h, h0, h1⟩]
theorem fl_live {a : Int} {flush t : Int} (h : flush = 0 ∨ t < flush) {x y : It} (hx : x.exp = 0) (hy : y.exp = 0) : liveF ⟨[x, y], a, flush⟩ t = ⟨[x, y], a, flush⟩ := by
  unfold liveF
  rw [if_neg (by show ¬ (flush ≠ 0 ∧ flush ≤ t); omega)]
  simp [goneB, hx, hy]
theorem at_a (x y : It) (hx : x.key = [97]) : atF [x, y] [97] = 0 ∧ isF [x, y] [97] = true := by
  simp [isF, atF, hx, Op.bytesLess]
theorem at_b (x y : It) (hx : x.key = [97]) (hy : y.key = [98]) : atF [x, y] [98] = 1 ∧ isF [x, y] [98] = true := by
  simp [isF, atF, hx, hy, Op.bytesLess]
theorem fl1 : applyF (none' 0) 10 (setC [97] 0 [49] 0) 99 = (⟨[flA 0], 1, 0⟩, ⟨2, flA 0, 0, false, false, false⟩) :=
  set_nil (cas := 0) (now := 10) (most := 99) ⟨by decide, by decide, by decide⟩ (by decide) (by decide) (by decide)
theorem fl2 : applyF ⟨[flA 0], 1, 0⟩ 10 (setC [98] 0 [49] 0) 99 = (⟨[flA 0, flB 2 0], 2, 0⟩, ⟨2, flB 2 0, 0, false, false, false⟩) := by
  rw [app_lit (by decide) (by decide) (by decide), show (⟨[flA 0], 1, 0⟩ : St) = one (flA 0) 1 from rfl, live_one (by decide)]
  have e1 : atF (one (flA 0) 1).items (setC [98] 0 [49] 0).key = 1 := by simp [one, setC, atF, flA, Op.bytesLess]
  have e2 : isF (one (flA 0) 1).items (setC [98] 0 [49] 0).key = false := by simp [one, setC, isF, atF, flA, Op.bytesLess]
  have hw := u64w 2 (by decide) (by decide)
  rw [e1, e2]
  simp [doF, setC, storeF, fitsB, newF, putF, one, momF, flB, flA, hw]
theorem fl3 {sec : Int} (h0 : 1 ≤ sec) (h1 : sec ≤ 1048576) : applyF ⟨[flA 0, flB 2 0], 2, 0⟩ 10 (flC sec) 99 = (⟨[flA 0, flB 2 0], 2, 10 + sec⟩, toldF 10) := by
  have hn : nearB sec = true := by simp [nearB]; omega
  have hm : mayB (flC sec) = true := by
    simp only [mayB, flC, hn]; rfl
  have hmo : momF 10 sec = 10 + sec := by unfold momF; rw [if_neg (by omega), if_neg (by omega)]
  rw [app_lit hm (by decide) (by decide), fl_live (.inl rfl) rfl rfl]
  simp [doF, flC, flushF, hmo]
  omega
theorem fl4 {sec t : Int} (ht : t < 10 + sec) (h0 : 1 ≤ t) (h1 : t ≤ 1099511627776) : applyF ⟨[flA 0, flB 2 0], 2, 10 + sec⟩ t (getC [97]) 99 = (⟨[flA t, flB 2 0], 2, 10 + sec⟩, ⟨1, flA t, 0, false, false, false⟩) := by
  rw [app_lit (ok_get (by decide) h0 h1).1 h0 h1, fl_live (.inr ht) rfl rfl]
  obtain ⟨e1, e2⟩ := at_a (flA 0) (flB 2 0) rfl
  show doF ⟨[flA 0, flB 2 0], 2, 10 + sec⟩ t (getC [97]) 99 (atF [flA 0, flB 2 0] [97]) (isF [flA 0, flB 2 0] [97]) = _
  rw [e1, e2]
  simp [doF, getC, getF, gotF, winB, soonB, itF, flA, flB]
theorem fl5 {sec t : Int} (ht : t < 10 + sec) (h0 : 1 ≤ t) (h1 : t ≤ 1099511627776) : applyF ⟨[flA t, flB 2 0], 2, 10 + sec⟩ t (getC [98]) 99 = (⟨[flA t, flB 2 t], 2, 10 + sec⟩, ⟨1, flB 2 t, 0, false, false, false⟩) := by
  rw [app_lit (ok_get (by decide) h0 h1).1 h0 h1, fl_live (.inr ht) rfl rfl]
  obtain ⟨e1, e2⟩ := at_b (flA t) (flB 2 0) rfl rfl
  show doF ⟨[flA t, flB 2 0], 2, 10 + sec⟩ t (getC [98]) 99 (atF [flA t, flB 2 0] [98]) (isF [flA t, flB 2 0] [98]) = _
  rw [e1, e2]
  simp [doF, getC, getF, gotF, winB, soonB, itF, flA, flB]
theorem fl_over {X : St} {sec t : Int} (hX : X.flush = 10 + sec) (h0 : 1 ≤ sec) (ht : 10 + sec ≤ t) : liveF X t = none' X.cas := by
  unfold liveF
  rw [if_pos (by rw [hX]; omega)]; rfl
theorem fl4g {sec t : Int} (hs : 1 ≤ sec) (ht : 10 + sec ≤ t) (h1 : t ≤ 1099511627776) : applyF ⟨[flA 0, flB 2 0], 2, 10 + sec⟩ t (getC [97]) 99 = (⟨[], 2, 0⟩, toldF 5) := by
  rw [app_lit (ok_get (by decide) (by omega) h1).1 (by omega) h1, fl_over rfl hs ht]
  simp [doF, getC, getF, none', isF]
theorem fl6 {sec : Int} (hs : 1 ≤ sec) (h1 : 10 + sec ≤ 1099511627776) {x y : It} : applyF ⟨[x, y], 2, 10 + sec⟩ (10 + sec) (setC [98] 0 [49] 0) 99 = (⟨[flB 3 0], 3, 0⟩, ⟨2, flB 3 0, 0, false, false, false⟩) := by
  rw [app_lit (by decide) (by omega) h1, fl_over rfl hs (Int.le_refl _)]
  have hw := u64w 3 (by decide) (by decide)
  simp [doF, setC, storeF, fitsB, newF, putF, none', momF, flB, isF, hw, atF]
theorem fl6g {t : Int} (h0 : 1 ≤ t) (h1 : t ≤ 1099511627776) : applyF ⟨[], 2, 0⟩ t (setC [98] 0 [49] 0) 99 = (⟨[flB 3 0], 3, 0⟩, ⟨2, flB 3 0, 0, false, false, false⟩) :=
  set_nil (cas := 2) (now := t) (most := 99) ⟨by decide, h0, h1⟩ (by decide) (by decide) (by decide)
theorem fl7 {t : Int} (h0 : 1 ≤ t) (h1 : t ≤ 1099511627776) : applyF ⟨[flB 3 0], 3, 0⟩ t (getC [98]) 99 = (⟨[flB 3 t], 3, 0⟩, ⟨1, flB 3 t, 0, false, false, false⟩) :=
  get_one (x := flB 3 0) (cas := 3) (by decide) h0 h1 rfl rfl rfl
theorem good_two {x y : It} {cas flush : Int} (hx : x.key = [97]) (hy : y.key = [98]) (h1 : x.val.length ≤ 100000000) (h2 : y.val.length ≤ 100000000) (h3 : x.exp = 0) (h4 : y.exp = 0) : Good ⟨[x, y], cas, flush⟩ := by
  refine ⟨List.pairwise_cons.2 ⟨by intro b hb; simp at hb; subst hb; rw [hx, hy]; decide, List.pairwise_singleton _ _⟩, by simp, ?_⟩
  intro z hz
  simp at hz
  rcases hz with rfl | rfl
  · rw [hx, h3]; exact ⟨by decide, h1, by decide, by decide⟩
  · rw [hy, h4]; exact ⟨by decide, h2, by decide, by decide⟩
end Go.Proofs.YtfmpdbngpknmaaaDoor
