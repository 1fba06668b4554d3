/- The document's Put as a call of a walk; its get, walked. Printed by gen_refw4.py. -/
import Derived.Test.YtfpeholdlkfmoaaGreatDoorBS12
import Derived.Test.YtfpeholdlkfmoaaGreatDoorBS09
namespace Go.Proofs.YtfpeholdlkfmoaaGreatDoor
set_option linter.unusedSimpArgs false
set_option linter.unusedVariables false
set_option maxHeartbeats 8000000
open Go.RowKit
set_option maxRecDepth 100000
structure StR (w:World) (a:Option Addr) (n c:Nat) (X:St):Prop where
 h0:(∃ g o,a=some ⟨g,o,none⟩∧g < w.heap.size)∨(a=none∧n=0∧c=0)
 ha:RawI w a X.items
 hs:Sorted X.items
 hn:n=X.items.length
 hnc:n≤c
 hcm:c≤maxLen
 hl:n≤100000000
theorem StR.upd {w w':World} {a:Option Addr} {n c:Nat} {X:St} (h:StR w a n c X) (hu:Upd Non w w'):StR w' a n c X:=by
 refine ⟨?_,fun j x hx=>?_,h.hs,h.hn,h.hnc,h.hcm,h.hl⟩
 ·rcases h.h0 with ⟨g,o,e,hg⟩ | h
  ·exact .inl ⟨g,o,e,Nat.lt_of_lt_of_le hg hu.size⟩
  ·exact .inr h
 ·obtain ⟨g,o,e,hg,hc⟩:=h.ha j x hx
  refine ⟨g,o,e,Nat.lt_of_lt_of_le hg hu.size,fun i v hv=>?_⟩
  rw [← hc i v hv]
  unfold World.cell?
  rw [hu.to_below.block g hg]
def OpP (w:World) (a:Option Addr) (n c:Nat) (X:St) (same:Bool) (Y:St × An) (e:Ending) (w':World):Prop:=
 Below w.heap.size w w'∧∃ v,e=.returned (.tuple #[.agg #[v,.int .u64 Y.1.cas,.int .i64 Y.1.flush],.agg (anA Y.2)])∧((same=true∧v=.slice a n c∧Y.1.items=X.items)∨(same=false∧∃ r,RowOk w.heap.size w' r 33 8 Y.1.items.length (zD4 Y.1.items)∧v=zE9 r Y.1.items.length))
theorem anS_wf (pr:Nat→Prop) (y:An):wfs pr (anS y):=by
 intro z hz
 simp only [anS,List.mem_cons,List.not_mem_nil,or_false] at hz
 rcases hz with rfl | rfl | rfl | rfl | rfl | rfl | rfl | rfl | rfl | rfl | rfl | rfl | rfl <;> trivial
end Go.Proofs.YtfpeholdlkfmoaaGreatDoor
/- The document's store, walked. Printed by gen_refw5.py. -/
namespace Go.Proofs.YtfpeholdlkfmoaaGreatDoor
set_option linter.unusedSimpArgs false
set_option linter.unusedVariables false
set_option maxHeartbeats 8000000
open Go.RowKit
set_option maxRecDepth 100000
theorem cdS_wf (pr:Nat→Prop) (c:Cd):wfs pr (cdS c):=by
 intro z hz
 simp only [cdS,List.mem_cons,List.not_mem_nil,or_false] at hz
 rcases hz with rfl | rfl | rfl | rfl | rfl | rfl | rfl | rfl | rfl | rfl | rfl | rfl | rfl | rfl | rfl | rfl <;> trivial
end Go.Proofs.YtfpeholdlkfmoaaGreatDoor
/- The document's Drop of a key that is there, walked. Printed by gen_refw6.py. -/
namespace Go.Proofs.YtfpeholdlkfmoaaGreatDoor
set_option linter.unusedSimpArgs false
set_option linter.unusedVariables false
set_option maxHeartbeats 8000000
open Go.RowKit
set_option maxRecDepth 100000
end Go.Proofs.YtfpeholdlkfmoaaGreatDoor
/- Drop as a call of a walk; the document's remove, walked. Printed by gen_refw7.py. -/
namespace Go.Proofs.YtfpeholdlkfmoaaGreatDoor
set_option linter.unusedSimpArgs false
set_option linter.unusedVariables false
set_option maxHeartbeats 8000000
open Go.RowKit
set_option maxRecDepth 100000
def RemP (w:World) (a:Option Addr) (n c:Nat) (X:St) (knd:Nat) (Y:St × An) (e:Ending) (w':World):Prop:=
 Below w.heap.size w w'∧∃ v,e=.returned (.tuple #[.agg #[v,.int .u64 Y.1.cas,.int .i64 Y.1.flush],.agg (anA Y.2)])∧((knd=0∧v=.slice a n c∧Y.1.items=X.items)∨(knd=1∧∃ r,RowOk w.heap.size w' r 33 8 Y.1.items.length (zD4 Y.1.items)∧v=zE9 r Y.1.items.length)∨(knd=2∧Y.1.items=[]∧∃ b,w.heap.size≤b∧v=.slice (some ⟨b,0,none⟩) 0 0))
end Go.Proofs.YtfpeholdlkfmoaaGreatDoor
/- A row of items as a state's items at a raw place; the document's Live as a call of a walk. -/
namespace Go.Proofs.YtfpeholdlkfmoaaGreatDoor
set_option linter.unusedSimpArgs false
set_option linter.unusedVariables false
open Go.RowKit
set_option maxRecDepth 100000
end Go.Proofs.YtfpeholdlkfmoaaGreatDoor
/- The document's operations on a state whose items are a row, as calls of a walk: new items, or the ones handed in. -/
namespace Go.Proofs.YtfpeholdlkfmoaaGreatDoor
set_option linter.unusedSimpArgs false
set_option linter.unusedVariables false
open Go.RowKit
set_option maxRecDepth 100000
theorem RemP.same {w:World} {a:Option Addr} {n c:Nat} {X:St} {Y:St × An} {e:Ending} {w':World} (h:RemP w a n c X 0 Y e w'):OpP w a n c X true Y e w':=by
 obtain ⟨hb,v,he,h⟩:=h
 refine ⟨hb,v,he,?_⟩
 rcases h with ⟨_,h1,h2⟩ | ⟨h,_⟩ | ⟨h,_⟩
 ·exact .inl ⟨rfl,h1,h2⟩
 ·cases h
 ·cases h
theorem RemP.new {w:World} {a:Option Addr} {n c:Nat} {X:St} {Y:St × An} {e:Ending} {w':World} (h:RemP w a n c X 1 Y e w'):OpP w a n c X false Y e w':=by
 obtain ⟨hb,v,he,h⟩:=h
 refine ⟨hb,v,he,?_⟩
 rcases h with ⟨h,_⟩ | ⟨_,h⟩ | ⟨h,_⟩
 ·cases h
 ·exact .inr ⟨rfl,h⟩
 ·cases h
end Go.Proofs.YtfpeholdlkfmoaaGreatDoor
