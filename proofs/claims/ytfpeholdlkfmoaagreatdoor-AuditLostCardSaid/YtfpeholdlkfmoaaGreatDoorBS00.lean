/- The contracts of library functions that this claim uses, laid at this translation by the guide's shelf tools: each is one application of a theorem of the library. -/
import Derived.Shelf.Strconv.Itoa1
import Derived.Shelf.LaysM
import Derived.Shelf.Strconv.Itoa2
import Derived.Test.YtfpeholdlkfmoaaGreatDoorProg
import Derived.WalkKit
import Derived.Lib.Walk
import Derived.Lib.AppendIntMem
import Derived.BigCall
import Derived.BigGuard
import Derived.Below
import Derived.Laws.OwnMore
import Derived.Laws.Rows
import Derived.Deep.Draws
import Derived.Lib.Hide
import Derived.Test.YtfpeholdlkfmoaaGreatDoorRows
import Derived.ProofKit
import Derived.OpenShut
import Derived.LaidMore
import Derived.Deep.DeepHandedRow
import Derived.Deep.Slices
import Derived.Deep.Fields
import Derived.Lib.LaidTab
import Derived.Shelf.Strings.Trim
import Derived.Shelf.Pu.ParseUintPublic10
import Derived.Shelf.Pu.ErrVarParseUint
import Derived.Outline
import Derived.Lib.SlTrimSet
import Derived.Lib.ParseIntB
import Derived.Lib.ItoaNum
import Derived.Shelf.Strings.SlTrimAscii
import Derived.WalkSmall
import Derived.WalkSpells
import Derived.LoopTactic
import Derived.Stop.LaidErr
import Derived.Laws.CopyRow
import Derived.Laws.AppendOwn
import Derived.Orders
import Derived.KernelRfl
namespace Go.Proofs
set_option linter.unusedSimpArgs false
set_option linter.unusedVariables false
open Go.Shelf
def Tryz.lays283_ren:Go.Shelf.Ren:=⟨fun | 283=>83 | n=>n,fun | 3=>3 | 9=>9 | 4=>4 | n=>n,fun | n=>n⟩
theorem Tryz.lays283:Go.Proofs.Lays.n283 Tryz.prog Tryz.lays283_ren:={
 mixed:=by kernel_rfl
 f283:=Tryz.func83.trans (congrArg some (by kernel_rfl))
 t3:=Tryz.underlying3
 a3:=Tryz.isAgg3
 z3:=Tryz.sizeOf3
 v3:=Tryz.zeroValue3
 t4:=Tryz.underlying4
 a4:=Tryz.isAgg4
 z4:=Tryz.sizeOf4
 v4:=Tryz.zeroValue4
 t9:=Tryz.underlying9
 a9:=Tryz.isAgg9
 z9:=Tryz.sizeOf9
 v9:=Tryz.zeroValue9 }
open Go.Lib in
theorem Tryz.internal_strconv_small (i:Nat) (h:i < 100) (w:World) :
  Calls Tryz.prog 83 #[.int .i64 i] w fun e w'=>e=.returned (.string ⟨(Lib.decDigits i).toArray⟩)∧w'=w:=Any.internal_strconv_small Tryz.lays283 i h w
def Tryz.laysM284_ren:Go.Shelf.Ren:=⟨fun | 284=>84 | 129=>102 | 317=>101 | 318=>103 | n=>n,fun | 53=>23 | 3=>3 | 212=>140 | 0=>0 | 4=>4 | 46=>79 | 5=>5 | 9=>9 | n=>n,fun | 17=>1 | n=>n⟩
theorem Tryz.laysM284:Go.Proofs.LaysM.n284 Tryz.prog Tryz.laysM284_ren:={
 mixed:=by kernel_rfl
 f129:=Tryz.func102.trans (congrArg some (by kernel_rfl))
 f284:=Tryz.func84.trans (congrArg some (by kernel_rfl))
 f317:=Tryz.func101.trans (congrArg some (by kernel_rfl))
 f318:=Tryz.func103.trans (congrArg some (by kernel_rfl))
 t0:=Tryz.underlying0
 a0:=Tryz.isAgg0
 z0:=Tryz.sizeOf0
 v0:=Tryz.zeroValue0
 t3:=Tryz.underlying3
 a3:=Tryz.isAgg3
 z3:=Tryz.sizeOf3
 v3:=Tryz.zeroValue3
 t4:=Tryz.underlying4
 a4:=Tryz.isAgg4
 z4:=Tryz.sizeOf4
 v4:=Tryz.zeroValue4
 t5:=Tryz.underlying5
 a5:=Tryz.isAgg5
 z5:=Tryz.sizeOf5
 v5:=Tryz.zeroValue5
 t9:=Tryz.underlying9
 a9:=Tryz.isAgg9
 z9:=Tryz.sizeOf9
 v9:=Tryz.zeroValue9
 t46:=Tryz.underlying79
 a46:=Tryz.isAgg79
 z46:=Tryz.sizeOf79
 v46:=Tryz.zeroValue79
 t53:=Tryz.underlying23
 a53:=Tryz.isAgg23
 z53:=Tryz.sizeOf23
 v53:=Tryz.zeroValue23
 t212:=Tryz.underlying140
 a212:=Tryz.isAgg140
 z212:=Tryz.sizeOf140
 v212:=Tryz.zeroValue140
 g17:=by kernel_rfl
 i0:=by kernel_rfl
 i3:=by kernel_rfl
 i4:=by kernel_rfl
 i5:=by kernel_rfl
 i9:=by kernel_rfl
 i46:=by kernel_rfl
 i53:=by kernel_rfl
 i212:=by kernel_rfl
 m17:=by kernel_rfl }
open Go.Lib in
theorem Tryz.internal_strconv_numDigits (u : Nat) (h1 : 1 ≤ u) (h2 : u < 18446744073709551616) (w : World) (htab : Lib.TabIs Tryz.prog w "internal/strconv.uint64pow10" .u64 Lib.pow10Tab) :
  Calls Tryz.prog 84 #[.int .u64 u] w fun e w'=>e=.returned (.int .i64 (Lib.nDigits u))∧w'=w:=Any.internal_strconv_numDigits Tryz.laysM284 u h1 h2 w htab
def Tryz.lays285_ren:Go.Shelf.Ren:=⟨fun | 285=>85 | n=>n,fun | 37=>98 | 53=>23 | 3=>3 | 4=>4 | 51=>26 | 9=>9 | 5=>5 | 0=>0 | n=>n,fun | n=>n⟩
theorem Tryz.lays285:Go.Proofs.Lays.n285 Tryz.prog Tryz.lays285_ren:={
 mixed:=by kernel_rfl
 f285:=Tryz.func85.trans (congrArg some (by kernel_rfl))
 t0:=Tryz.underlying0
 a0:=Tryz.isAgg0
 z0:=Tryz.sizeOf0
 v0:=Tryz.zeroValue0
 t3:=Tryz.underlying3
 a3:=Tryz.isAgg3
 z3:=Tryz.sizeOf3
 v3:=Tryz.zeroValue3
 t4:=Tryz.underlying4
 a4:=Tryz.isAgg4
 z4:=Tryz.sizeOf4
 v4:=Tryz.zeroValue4
 t5:=Tryz.underlying5
 a5:=Tryz.isAgg5
 z5:=Tryz.sizeOf5
 v5:=Tryz.zeroValue5
 t9:=Tryz.underlying9
 a9:=Tryz.isAgg9
 z9:=Tryz.sizeOf9
 v9:=Tryz.zeroValue9
 t37:=Tryz.underlying98
 a37:=Tryz.isAgg98
 z37:=Tryz.sizeOf98
 v37:=Tryz.zeroValue98
 t51:=Tryz.underlying26
 a51:=Tryz.isAgg26
 z51:=Tryz.sizeOf26
 v51:=Tryz.zeroValue26
 t53:=Tryz.underlying23
 a53:=Tryz.isAgg23
 z53:=Tryz.sizeOf23
 v53:=Tryz.zeroValue23 }
open Go.RowKit Go.Sort Go.Lib in
theorem Tryz.internal_strconv_formatBase10 (blk off cap:Nat) (u:Nat) (d:Array UInt8) (w:World) (hH:Holds (fun (b:UInt8)=>Value.int .u8 (b.toNat:Int)) w blk off d) (hu:u < 10 ^ d.size) (hu64:u < 18446744073709551616) (hsz:d.size < 4611686018427387904) :
  Calls Tryz.prog 85 #[.slice (some ⟨blk,off,none⟩) d.size cap,.int .u64 u] w fun e w' =>
   e=.returned (.tuple #[])∧∃ (n v':Nat) (dk:Array UInt8),w'=(putRow (fun (b:UInt8)=>Value.int .u8 (b.toNat:Int)) w blk off dk).drewN n∧FmtInv d.size u 0 v' dk:=Any.internal_strconv_formatBase10 Tryz.lays285 blk off cap u d w hH hu hu64 hsz
end Go.Proofs
/- A number's decimal text: strconv.FormatUint at base 10 and nums.Text return the decimal digits of any unsigned 64 bit number; old memory stays as it was. -/
namespace Go.Proofs.YtfpeholdlkfmoaaGreatDoor
set_option linter.unusedSimpArgs false
set_option linter.unusedVariables false
open Go.Shelf Go.RowKit Go.Sort Go.Lib
def Pow (w : World) : Prop := Lib.TabIs Tryz.prog w "internal/strconv.uint64pow10" .u64 Lib.pow10Tab
theorem Pow.below {w w':World} (h:Pow w) (hb:Below w.heap.size w w'):Pow w':=Lib.tabBelow_of_tabIs h w' hb
set_option maxHeartbeats 6400000 in
set_option maxRecDepth 100000 in
theorem formatUint (u:Nat) (hu64:u < 18446744073709551616) (w:World) (htab:Pow w) :
  Calls Tryz.prog 78 #[.int .u64 u,.int .i64 10] w fun e w'=>e=.returned (.string ⟨(Lib.decDigits u).toArray⟩)∧Below w.heap.size w w':=by
 by_cases hs:u < 100
 ·have hs':(u:Int) < 100:=by omega
  go_enter Tryz.func78,Tryz.ntmps78
  go_wp2_with (go_at_call 83; refine (Tryz.internal_strconv_small u hs _).mono ?_; rintro e w' ⟨rfl,rfl⟩)
  go_ret
  exact ⟨rfl,Below.refl _ _⟩
 ·have hu1:1≤u:=by omega
  have hnd20:Lib.nDigits u≤20:=by have:=Lib.numDigits_eq u hu1 hu64; split at this <;> omega
  have hal:Tryz.prog.arrayLen 120=24:=by kernel_rfl
  have hsl:∀ W,(Instr.sliceAt 120 (.pointer (some ⟨w.heap.size,0,none⟩)) none (some (.int .i64 (Lib.nDigits u:Int))) none).run Tryz.prog W=.ok (.slice (some ⟨w.heap.size,0,none⟩) (Lib.nDigits u) 24) W:=fun W=>by
   rw [run_sliceAt_array_h W 120 ⟨w.heap.size,0,none⟩ (by kernel_rfl) .i64 (Lib.nDigits u:Int) (by omega) (by rw [hal]; omega)]
   go_simp
  have hH0:=Lib.holds_zero0 w 120 (Lib.nDigits u) (by omega)
  have hfmt:=Tryz.internal_strconv_formatBase10 w.heap.size 0 24 u (Array.replicate (Lib.nDigits u) 0) (w.alloc (.cells Lib.zeros24 120)) hH0 (by rw [Array.size_replicate]; exact Lib.lt_pow_nDigits u) hu64 (by rw [Array.size_replicate]; omega)
  rw [Array.size_replicate] at hfmt
  have HH0:=Lib.hid hH0
  have iu:(100:Int)≤(u:Int):=by omega
  clear hH0 hal
  go_enter Tryz.func78,Tryz.ntmps78
  go_wp2_with (first
   | (go_at_call 84; refine (Tryz.internal_strconv_numDigits u hu1 hu64 _ (Lib.tabIs_alloc htab _)).mono ?_; rintro e w' ⟨rfl,rfl⟩))
  go_at_call 85
  refine hfmt.mono ?_
  rintro e w' ⟨rfl,k,v',dk,rfl,hF⟩
  have hcv:(convert 98 9 (.slice (some ⟨w.heap.size,0,none⟩) (Lib.nDigits u) 24)).run Tryz.prog ((putRow (fun (b:UInt8)=>Value.int .u8 (b.toNat:Int)) (w.alloc (.cells Lib.zeros24 120)) w.heap.size 0 dk).drewN k)=.ok (.string ⟨(Lib.decDigits u).toArray⟩) ((putRow (fun (b:UInt8)=>Value.int .u8 (b.toNat:Int)) (w.alloc (.cells Lib.zeros24 120)) w.heap.size 0 dk).drewN k):=by
   have h:=run_convert_bytes_back (P:=Tryz.prog) ((putRow (fun (b:UInt8)=>Value.int .u8 (b.toNat:Int)) (w.alloc (.cells Lib.zeros24 120)) w.heap.size 0 dk).drewN k) 98 9 5 ⟨w.heap.size,0,none⟩ 24 (Lib.decDigits u) Tryz.underlying98 Tryz.underlying5 Tryz.underlying9 (fun j hj=>by
    rw [Lib.row_is_numeral hF j hj,Lib.add_plain,World.cell?_drewN]
    exact cell?_putRow (fun (b:UInt8)=>Value.int .u8 (b.toNat:Int)) _ w.heap.size 0 _ dk HH0.out (by rw [hF.size,Array.size_replicate]) j (by rw [hF.size]; rw [Lib.decDigits_length] at hj; exact hj))
   rw [Lib.decDigits_length] at h
   exact h
  go_wp2
  go_ret
  obtain ⟨os,eo⟩:=Lib.fin_at w (.cells Lib.zeros24 120) dk k 0
  refine ⟨rfl,?_⟩
  rw [eo]
  exact Lib.below_grow _ w (Nat.le_refl _) k os
theorem fmtUint (u:Nat) (hu64:u < 18446744073709551616) (w:World) (htab:Pow w) :
  Calls Tryz.prog 68 #[.int .u64 u,.int .i64 10] w fun e w'=>e=.returned (.string ⟨(Lib.decDigits u).toArray⟩)∧Below w.heap.size w w':=by
 have H:=Lib.hid (formatUint u hu64 w htab)
 go_enter Tryz.func68,Tryz.ntmps68
 go_wp2_with (go_at_call 78; refine (H.out).mono ?_; rintro e w' ⟨rfl,hb⟩)
 go_ret
 exact ⟨rfl,hb⟩
theorem text (u:Nat) (hu64:u < 18446744073709551616) (w:World) (htab:Pow w) :
  Calls Tryz.prog 59 #[.int .u64 u] w fun e w'=>e=.returned (.string ⟨(Lib.decDigits u).toArray⟩)∧Below w.heap.size w w':=by
 have H:=Lib.hid (fmtUint u hu64 w htab)
 go_enter Tryz.func59,Tryz.ntmps59
 go_wp2_with (go_at_call 68; refine (H.out).mono ?_; rintro e w' ⟨rfl,hb⟩)
 go_ret
 exact ⟨rfl,hb⟩
end Go.Proofs.YtfpeholdlkfmoaaGreatDoor
/- Words for memory: a block that is known whole, and which blocks a step may change; plain lemmas, no program in sight. -/
namespace Go.Proofs.YtfpeholdlkfmoaaGreatDoor
set_option linter.unusedSimpArgs false
set_option linter.unusedVariables false
open Go.RowKit
structure Upd (S:Nat→Prop) (w w':World):Prop where
 os:w'.os=w.os
 tape:w'.tape=w.tape
 output:w'.output=w.output
 size:w.heap.size≤w'.heap.size
 block:∀ k,k < w.heap.size→¬ S k→w'.heap[k]?=w.heap[k]?
def Non:Nat→Prop:=fun _=>False
def One (g:Nat):Nat→Prop:=fun k=>k=g
section
variable {S T:Nat→Prop} {w w' w'':World}
theorem Upd.refl (S:Nat→Prop) (w:World):Upd S w w:=⟨rfl,rfl,rfl,Nat.le_refl _,fun _ _ _=>rfl⟩
theorem Upd.trans (h:Upd S w w') (k:Upd T w' w'') (hT:∀ i,i < w.heap.size→T i→S i):Upd S w w'':=
 ⟨k.os.trans h.os,k.tape.trans h.tape,k.output.trans h.output,Nat.le_trans h.size k.size,fun i hi hS =>
  (k.block i (Nat.lt_of_lt_of_le hi h.size) (fun ht=>hS (hT i hi ht))).trans (h.block i hi hS)⟩
theorem Upd.same (h:Upd S w w') (k:Upd S w' w''):Upd S w w'':=h.trans k fun _ _ h=>h
theorem Upd.mono (h:Upd S w w') (hT:∀ i,i < w.heap.size→S i→T i):Upd T w w':=⟨h.os,h.tape,h.output,h.size,fun i hi hT'=>h.block i hi (fun hs=>hT' (hT i hi hs))⟩
theorem Upd.non (h:Upd Non w w'):Upd S w w':=h.mono fun _ _ h=>h.elim
theorem Upd.drew (h:Upd S w w'):Upd S w w'.drew:=⟨h.os,h.tape,h.output,h.size,h.block⟩
theorem Upd.drewN (h:Upd S w w') (n:Nat):Upd S w (w'.drewN n):=⟨h.os,h.tape,h.output,h.size,h.block⟩
theorem Upd.alloc (h:Upd S w w') (o:Obj):Upd S w (w'.alloc o):=
 ⟨h.os,h.tape,h.output,Nat.le_trans h.size (by simp),fun i hi hS=>(Below.heap_alloc w' o i (Nat.lt_of_lt_of_le hi h.size)).trans (h.block i hi hS)⟩
theorem Upd.setCell (h:Upd S w w') {p:Addr} (hp:p.block < w.heap.size→S p.block) (u:Value):Upd S w (w'.setCell p u):=
 ⟨h.os,h.tape,h.output,by simpa [World.setCell] using h.size,fun i hi hS=>(Below.heap_setCell w' p u i (fun e=>hS (e ▸ hp (e ▸ hi)))).trans (h.block i hi hS)⟩
theorem Upd.below (h:Upd S w w') (k:Below w'.heap.size w' w''):Upd S w w'':=
 ⟨k.os.trans h.os,k.tape.trans h.tape,k.output.trans h.output,Nat.le_trans h.size k.size,fun i hi hS=>(k.block i (Nat.lt_of_lt_of_le hi h.size)).trans (h.block i hi hS)⟩
theorem Upd.of_below (h:Below w.heap.size w w'):Upd S w w':=(Upd.refl S w).below h
theorem Upd.to_below (h:Upd Non w w'):Below w.heap.size w w':=⟨h.os,h.tape,h.output,h.size,fun k hk=>h.block k hk (fun h=>h)⟩
theorem Upd.cell (h:Upd S w w') {p:Addr} (hp:p.block < w.heap.size) (hS:¬ S p.block):w'.cell? p=w.cell? p:=World.cell?_of_block (h.block p.block hp hS)
theorem Upd.frozen (h:Upd S w w') {p:Addr} (hp:p.block < w.heap.size) (hS:¬ S p.block):w'.frozen? p=w.frozen? p:=World.frozen?_of_block (h.block p.block hp hS)
end
theorem Upd.setOne {w w':World} {g:Nat} (h:Upd (One g) w w') (i:Nat) (u:Value):Upd (One g) w (w'.setCell ⟨g,i,none⟩ u):=h.setCell (p:=⟨g,i,none⟩) (fun _=>rfl) u
def Blk (w:World) (g:Nat) (t:TypeId) (cs:Array Value):Prop:=w.heap[g]?=some (.cells cs t (0,0))
section
variable {w w':World} {g:Nat} {t:TypeId} {cs:Array Value} {S:Nat→Prop}
theorem Blk.lt (h:Blk w g t cs):g < w.heap.size:=by
 rcases Nat.lt_or_ge g w.heap.size with hlt | hge
 ·exact hlt
 ·unfold Blk at h; rw [Array.getElem?_eq_none hge] at h; cases h
theorem Blk.cell (h:Blk w g t cs) (i:Nat):w.cell? ⟨g,i,none⟩=cs[i]?:=cell_of_row w g i cs t (0,0) h
theorem Blk.frozen (h:Blk w g t cs) (i:Nat):w.frozen? ⟨g,i,none⟩=false:=by
 unfold Blk at h
 simp [World.frozen?,h]
theorem Blk.new (w:World) (t:TypeId) (cs:Array Value):Blk (w.alloc (.cells cs t)) w.heap.size t cs:=heap_alloc_new w _
theorem Blk.drew (h:Blk w g t cs):Blk w.drew g t cs:=h
theorem Blk.drewN (h:Blk w g t cs) (n:Nat):Blk (w.drewN n) g t cs:=h
theorem Blk.alloc (h:Blk w g t cs) (o:Obj):Blk (w.alloc o) g t cs:=(Below.heap_alloc w o g h.lt).trans h
theorem Blk.set_ (h:Blk w g t cs) (i:Nat) (u:Value):Blk (w.setCell ⟨g,i,none⟩ u) g t (cs.setIfInBounds i u):=by
 unfold Blk at h ⊢
 simp [World.setCell,Array.getElem?_modify,h]
theorem Blk.far (h:Blk w g t cs) {p:Addr} (hp:g ≠ p.block) (u:Value):Blk (w.setCell p u) g t cs:=(Below.heap_setCell w p u g hp).trans h
theorem Blk.upd (h:Blk w g t cs) (hb:Upd S w w') (hg:¬ S g):Blk w' g t cs:=(hb.block g h.lt hg).trans h
theorem Blk.below (h:Blk w g t cs) (hb:Below w.heap.size w w'):Blk w' g t cs:=(hb.block g h.lt).trans h
theorem Blk.to {cs':Array Value} (h:Blk w g t cs) (e:cs=cs'):Blk w g t cs':=e ▸ h
end
theorem Upd.setRow {S:Nat→Prop} {w w':World} (h:Upd S w w') {g:Nat} (hg:g < w.heap.size→S g) (cs:Array Value):Upd S w (w'.setRow g cs):=
 ⟨h.os,h.tape,h.output,by rw [setRow_size]; exact h.size,fun i hi hS=>(setRow_other w' g i cs (fun e=>hS (e ▸ hg (e ▸ hi)))).trans (h.block i hi hS)⟩
theorem Blk.setRow {w:World} {g:Nat} {t:TypeId} {cs:Array Value} (h:Blk w g t cs) (cs':Array Value):Blk (w.setRow g cs') g t cs':=setRow_heap w g cs cs' t (0,0) h
theorem ret_int {k:IntKind} {a b:Int} (h:a=b):Ending.returned (.int k a)=.returned (.int k b):=by rw [h]
theorem zH5 {a b:Bool} (h:a=b):Ending.returned (.bool a)=.returned (.bool b):=by rw [h]
end Go.Proofs.YtfpeholdlkfmoaaGreatDoor
/- From a walk to a row: what a law's row asks when the call returned true and old memory is as it was. -/
namespace Go.Proofs.YtfpeholdlkfmoaaGreatDoor
set_option linter.unusedSimpArgs false
set_option linter.unusedVariables false
open Go.ChangeShapes Go.WideShapes Go.ChangeAt Go.RowKit Go.Deep
section
variable {H:Type} {enc:TypeId × Value→H} {P:Program}
theorem all_stays (hl:laidOutB P=true) {W W':World} (hb:Below W.heap.size W W'):∀ (ts:List TypeId) (vs:List Value) (ds:List (DataW H)) (ps:List MemPlace),
  ts.all (fun t=>P.readableRec t && decide (t < P.types.size))=true→DataW.TrodAll enc P W 0 (fun _=>true) true ts vs ds ps→(∀ x∈ps,x.block < W.heap.size) →
  DataW.TrodAll enc P W' 0 (fun b=>decide (b < W.heap.size)) true ts vs ds ps:=by
 intro ts
 induction ts with
 | nil=>intro vs ds ps _ h _; obtain ⟨rfl,rfl,rfl⟩:=trodAll_nil h; rfl
 | cons t ts ih =>
  intro vs ds ps hr h hlt
  obtain ⟨v,vs',d,ds',p,q,rfl,rfl,rfl,h1,h2⟩:=trodAll_cons h
  simp only [List.all_cons,Bool.and_eq_true,decide_eq_true_eq] at hr
  exact ⟨p,q,Below.trod hl hr.1.1 hr.1.2 h1 hb (fun x hx=>hlt x (List.mem_append_left _ hx)),ih vs' ds' q hr.2 h2 (fun x hx=>hlt x (List.mem_append_right _ hx)),rfl⟩
theorem law_post {f:Func} {s:ChangeSpec} {W W':World} {args:Array Value} {ds gs:List (DataW H)} {before:List MemPlace} {tb:TypeId} (hl:laidOutB P=true)
  (hr:f.params.toList.all (fun t=>P.readableRec t && decide (t < P.types.size))=true) (hres:f.resultTypes=#[tb]) (hbool:P.underlying tb=some .bool) (hv:s.vars=[])
  (hW:DataW.Whole enc P f.params.toList s.vars false W args.toList ds gs before) (hfn:s.fn H (ds++gs)={ results:=[.lit (.bool true)],args:=ds }) (hb:Below W.heap.size W W') :
  s.post enc P f false true false false W args (.bool true) W':=by
 have hW':=hW
 have hlt:∀ p∈before,p.block < W.heap.size:=fun p hp=>hW.lt p hp
 obtain ⟨p,q,hA,hV,rfl,_,_⟩:=hW
 rw [hv] at hV
 obtain ⟨rfl,rfl⟩:=trodVars_none hV
 rw [List.append_nil] at hfn hlt hW'
 refine ⟨ds,[],p,[],p,[],hW',?_,?_,?_,World.keptBut_mono (fun x hx=>⟨hx,.inr (.inl hx)⟩) (hb.frame (·∈p)),fun h=>by cases h⟩
 ·rw [List.append_nil,hfn,hres]
  exact trodAll_mk1 (shut_bool hbool true)
 ·rw [List.append_nil,hfn]
  exact all_stays hl hb _ _ _ _ hr hA hlt
 ·rw [List.append_nil,hfn,hv]
  rfl
end
end Go.Proofs.YtfpeholdlkfmoaaGreatDoor
/- What an argument's reading says of memory: slices of plain structs and of whole numbers, at plain addresses. -/
namespace Go.Proofs.YtfpeholdlkfmoaaGreatDoor
set_option linter.unusedSimpArgs false
set_option linter.unusedVariables false
open Go.ChangeShapes Go.WideShapes Go.ChangeAt Go.RowKit Go.Deep
theorem zZ6 {w:World} {a:Addr} {v:Value} (h:w.cell? (a.add 0)=some v):∃ b o,a=⟨b,o,none⟩∧b < w.heap.size:=by
 obtain ⟨b,o,sp⟩:=a
 have hs:sp=none:=by simpa [Addr.add] using World.cell?_spot h
 subst hs
 exact ⟨b,o,rfl,by simpa [Addr.add] using block_lt_of_cell h⟩
section
variable {H:Type} {enc:TypeId × Value→H} {P:Program} {w:World}
theorem open_structs {t e:TypeId} {fs:Array Field} {fuel:Nat} {cs:List Value} {x:DataW H × List MemPlace} {held:Bool} (ht:P.underlying t=some (.slice e)) (he:P.underlying e=some (.struct fs))
  (hone:oneCellFields P fs=true) (hC:P.cellsOf e=fs.size) (h:DataW.trod enc P w 0 (fun _=>true) held fuel t cs=some x) :
  ∃ A n c,cs=[.slice A n c]∧n≤maxLen∧∀ i,i < n→∃ a,A=some a∧∀ (j:Nat) (f:Field),fs[j]?=some f→∃ v y m,w.cell? (a.add (i * fs.size+j))=some v∧DataW.trod enc P w 0 (fun _=>true) held m f.type [v]=some y:=by
 rcases open_slice ht h with ⟨h0,_⟩ | ⟨a,len,cap,m,n,D,Pl,jB,_,hl,hm,hmm,_,hi⟩
 ·exact ⟨none,0,0,h0,Nat.zero_le _,fun i hi=>absurd hi (by omega)⟩
 ·refine ⟨some a,len,cap,jB,Nat.le_trans hl hm,fun i hin=>⟨a,rfl,fun j f hj=>?_⟩⟩
  have him:i < m:=by
   simp only [if_true] at hmm
   omega
  obtain ⟨cs',hc,ht'⟩:=hi i him
  rw [hC] at hc
  obtain ⟨ys,n',_,_,_,hyl,hf⟩:=DataW.trod_struct he ht'
  obtain ⟨_,hcl,hat⟩:=World.cells?_some hc
  obtain ⟨ho,hk⟩:=hone_of hone j f hj
  have hjl:j < fs.size:=(Array.getElem?_eq_some_iff.1 hj).1
  have hcell:=hat j hjl
  have hv:cs'[j]?=some (cs'[j]'(by omega)):=List.getElem?_eq_getElem (by omega)
  have h1:=hf j f hj
  rw [ho,hk] at h1
  rw [show (cs'.drop j).take 1=[cs'[j]'(by omega)] from by rw [List.drop_eq_getElem_cons (by omega)]; rfl] at h1
  have hys:ys[j]?=some (ys[j]'(by omega)):=List.getElem?_eq_getElem (by omega)
  refine ⟨_,ys[j]'(by omega),n',?_,h1.trans hys⟩
  rw [← Go.Deep.add_add,hcell,hv]
theorem open_nums {t e:TypeId} {k:IntKind} {fuel:Nat} {cs:List Value} {x:DataW H × List MemPlace} {held:Bool} (ht:P.underlying t=some (.slice e)) (he:P.underlying e=some (.int k)) (hc:P.cellsOf e=1)
  (h:DataW.trod enc P w 0 (fun _=>true) held fuel t cs=some x) :
  ∃ A n c,cs=[.slice A n c]∧n≤maxLen∧∀ i,i < n→∃ a q,A=some a∧w.cell? (a.add i)=some (.int k q)∧(Lit.int k q).wf=true:=by
 rcases open_ints ht he hc h with ⟨h0,_⟩ | ⟨a,len,cap,zs,jB,_,hl,hm,hz,_,hcell,hwz⟩
 ·exact ⟨none,0,0,h0,Nat.zero_le _,fun i hi=>absurd hi (by omega)⟩
 ·refine ⟨some a,len,cap,jB,Nat.le_trans hl hm,fun i hin=>?_⟩
  simp only [if_true] at hz
  have hi:i < zs.length:=by omega
  exact ⟨a,zs.getD i 0,rfl,hcell i hi,by rw [List.getD_eq_getElem?_getD,List.getElem?_eq_getElem hi]; exact hwz _ (List.getElem_mem hi)⟩
end
end Go.Proofs.YtfpeholdlkfmoaaGreatDoor
/- What the rows' lists of variables give: the table of powers of ten lies as the text zM it. -/
namespace Go.Proofs.YtfpeholdlkfmoaaGreatDoor
set_option linter.unusedSimpArgs false
set_option linter.unusedVariables false
open Go.RowKit
theorem laid_at {P:Program} {W:World}:∀ (laid:List (String × DataW Unit)) (ps:List MemPlace),DataW.LaidVars P W laid ps→∀ n d,(n,d)∈laid →
  ∃ g t cs fuel p,P.globalNamed n=some g∧(P.globals[g]?).map (·.type)=some t∧W.var? P n=some cs∧DataW.trod (fun _=>()) P W 0 (fun _=>true) false fuel t cs.toList=some (d,p):=by
 intro laid
 induction laid with
 | nil=>intro ps _ n d h; cases h
 | cons x r ih =>
  intro ps h n d hm
  obtain ⟨n0,d0⟩:=x
  obtain ⟨g,t,cs,fuel,p,q,h1,h2,h3,h4,h5,_⟩:=h
  rcases List.mem_cons.1 hm with e | hm
  ·cases e; exact ⟨g,t,cs,fuel,p,h1,h2,h3,h4⟩
  ·exact ih q h5 n d hm
theorem laid_var {laid:List (String × DataW Unit)} {W:World} (h:laidMet Tryz.prog laid W) {n:String} {d:DataW Unit} (hm:(n,d)∈laid) {g t:Nat} (hg:Tryz.prog.globalNamed n=some g) (ht:(Tryz.prog.globals[g]?).map (·.type)=some t) :
  ∃ cs fuel p,W.var? Tryz.prog n=some cs∧DataW.trod (fun _=>()) Tryz.prog W 0 (fun _=>true) false fuel t cs.toList=some (d,p):=by
 obtain ⟨ps,hl,_⟩:=h
 obtain ⟨g',t',cs,fuel,p,hg',ht',hv,hd⟩:=laid_at laid ps hl n d hm
 obtain rfl:=Option.some.inj (hg.symm.trans hg')
 obtain rfl:=Option.some.inj (ht.symm.trans ht')
 exact ⟨cs,fuel,p,hv,hd⟩
theorem pow_of_laid {laid : List (String × DataW Unit)} {W : World} (hm : ("internal/strconv.uint64pow10", Rows.laid_internal_strconv_uint64pow10) ∈ laid) (h : laidMet Tryz.prog laid W) : Pow W := by
 obtain ⟨cs,fuel,p,hv,hd⟩:=laid_var (g:=1) (t:=140) h hm (by kernel_rfl) (by kernel_rfl)
 unfold Pow Lib.TabIs
 rw [hv,← Lib.cells_of_tab Tryz.underlying140 Tryz.underlying23 (by kernel_rfl) (by kernel_rfl) (show DataW.trod (fun _=>()) Tryz.prog W 0 (fun _=>true) false fuel 140 cs.toList=some (Lib.tabData .u64 Lib.pow10Tab,p) from hd)]
end Go.Proofs.YtfpeholdlkfmoaaGreatDoor
/- The contracts of library functions that this claim uses, laid at this translation by the guide's shelf tools: each is one application of a theorem of the library. -/
namespace Go.Proofs
set_option linter.unusedSimpArgs false
set_option linter.unusedVariables false
open Go.Shelf
def Tryz.lays160_ren:Go.Shelf.Ren:=⟨fun | 160=>79 | 232=>88 | 231=>87 | 227=>89 | 234=>91 | 233=>90 | 236=>93 | 235=>92 | 228=>106 | 271=>109 | 151=>108 | 197=>107 | 120=>117 | 152=>116 | 260=>115 | 137=>119 | 119=>120 | 224=>121 | 225=>122 | 217=>124 | 266=>125 | n=>n,fun | 9=>9 | 4=>4 | 3=>3 | 5=>5 | 117=>128 | 116=>127 | 0=>0 | 124=>131 | 21=>21 | 105=>145 | 46=>79 | 119=>160 | 139=>163 | 138=>162 | n=>n,fun | 3=>6 | 4=>7 | n=>n⟩
theorem Tryz.lays160:Go.Proofs.Lays.n160 Tryz.prog Tryz.lays160_ren:={
 mixed:=by kernel_rfl
 f119:=Tryz.func120.trans (congrArg some (by kernel_rfl))
 f120:=Tryz.func117.trans (congrArg some (by kernel_rfl))
 f137:=Tryz.func119.trans (congrArg some (by kernel_rfl))
 f151:=Tryz.func108.trans (congrArg some (by kernel_rfl))
 f152:=Tryz.func116.trans (congrArg some (by kernel_rfl))
 f160:=Tryz.func79.trans (congrArg some (by kernel_rfl))
 f197:=Tryz.func107.trans (congrArg some (by kernel_rfl))
 f217:=Tryz.func124.trans (congrArg some (by kernel_rfl))
 f224:=Tryz.func121.trans (congrArg some (by kernel_rfl))
 f225:=Tryz.func122.trans (congrArg some (by kernel_rfl))
 f227:=Tryz.func89.trans (congrArg some (by kernel_rfl))
 f228:=Tryz.func106.trans (congrArg some (by kernel_rfl))
 f231:=Tryz.func87.trans (congrArg some (by kernel_rfl))
 f232:=Tryz.func88.trans (congrArg some (by kernel_rfl))
 f233:=Tryz.func90.trans (congrArg some (by kernel_rfl))
 f234:=Tryz.func91.trans (congrArg some (by kernel_rfl))
 f235:=Tryz.func92.trans (congrArg some (by kernel_rfl))
 f236:=Tryz.func93.trans (congrArg some (by kernel_rfl))
 f260:=Tryz.func115.trans (congrArg some (by kernel_rfl))
 f266:=Tryz.func125.trans (congrArg some (by kernel_rfl))
 f271:=Tryz.func109.trans (congrArg some (by kernel_rfl))
 t0:=Tryz.underlying0
 a0:=Tryz.isAgg0
 z0:=Tryz.sizeOf0
 v0:=Tryz.zeroValue0
 t3:=Tryz.underlying3
 a3:=Tryz.isAgg3
 z3:=Tryz.sizeOf3
 v3:=Tryz.zeroValue3
 t4:=Tryz.underlying4
 a4:=Tryz.isAgg4
 z4:=Tryz.sizeOf4
 v4:=Tryz.zeroValue4
 t5:=Tryz.underlying5
 a5:=Tryz.isAgg5
 z5:=Tryz.sizeOf5
 v5:=Tryz.zeroValue5
 t9:=Tryz.underlying9
 a9:=Tryz.isAgg9
 z9:=Tryz.sizeOf9
 v9:=Tryz.zeroValue9
 t21:=Tryz.underlying21
 a21:=Tryz.isAgg21
 z21:=Tryz.sizeOf21
 v21:=Tryz.zeroValue21
 t46:=Tryz.underlying79
 a46:=Tryz.isAgg79
 z46:=Tryz.sizeOf79
 v46:=Tryz.zeroValue79
 t105:=Tryz.underlying145
 a105:=Tryz.isAgg145
 z105:=Tryz.sizeOf145
 v105:=Tryz.zeroValue145
 t116:=Tryz.underlying127
 a116:=Tryz.isAgg127
 z116:=Tryz.sizeOf127
 t117:=Tryz.underlying128
 a117:=Tryz.isAgg128
 z117:=Tryz.sizeOf128
 v117:=Tryz.zeroValue128
 t119:=Tryz.underlying160
 a119:=Tryz.isAgg160
 z119:=Tryz.sizeOf160
 t124:=Tryz.underlying131
 a124:=Tryz.isAgg131
 z124:=Tryz.sizeOf131
 v124:=Tryz.zeroValue131
 t138:=Tryz.underlying162
 a138:=Tryz.isAgg162
 z138:=Tryz.sizeOf162
 v138:=Tryz.zeroValue162
 t139:=Tryz.underlying163
 a139:=Tryz.isAgg163
 z139:=Tryz.sizeOf163
 v139:=Tryz.zeroValue163
 g3:=by kernel_rfl
 g4:=by kernel_rfl }
def Tryz.laysPu14_ren:Go.Shelf.Ren:=⟨fun | 14=>70 | 16=>80 | 17=>81 | 19=>94 | 20=>95 | 21=>96 | 22=>97 | 23=>98 | 24=>99 | 25=>110 | 27=>112 | 26=>111 | 28=>118 | 29=>123 | 30=>83 | 31=>84 | 32=>85 | 33=>86 | 35=>102 | 34=>101 | 36=>103 | 37=>104 | 38=>105 | 39=>113 | 40=>114 | n=>n,fun | 9=>9 | 3=>3 | 22=>23 | 24=>106 | 25=>107 | 4=>4 | 34=>132 | 5=>5 | 36=>79 | 37=>98 | 0=>0 | 39=>134 | 21=>21 | 44=>150 | 47=>154 | 50=>157 | 48=>155 | 2=>2 | 52=>120 | 55=>123 | 59=>140 | 60=>26 | 20=>20 | 61=>141 | 65=>158 | 66=>159 | 67=>167 | n=>n,fun | 0=>2 | 1=>3 | 2=>1 | 3=>4 | 4=>5 | n=>n⟩
theorem Tryz.laysPu14:Go.Proofs.LaysPu.n14 Tryz.prog Tryz.laysPu14_ren:={
 mixed:=by kernel_rfl
 f14:=Tryz.func70.trans (congrArg some (by kernel_rfl))
 f16:=Tryz.func80.trans (congrArg some (by kernel_rfl))
 f17:=Tryz.func81.trans (congrArg some (by kernel_rfl))
 f19:=Tryz.func94.trans (congrArg some (by kernel_rfl))
 f20:=Tryz.func95.trans (congrArg some (by kernel_rfl))
 f21:=Tryz.func96.trans (congrArg some (by kernel_rfl))
 f22:=Tryz.func97.trans (congrArg some (by kernel_rfl))
 f23:=Tryz.func98.trans (congrArg some (by kernel_rfl))
 f24:=Tryz.func99.trans (congrArg some (by kernel_rfl))
 f25:=Tryz.func110.trans (congrArg some (by kernel_rfl))
 f26:=Tryz.func111.trans (congrArg some (by kernel_rfl))
 f27:=Tryz.func112.trans (congrArg some (by kernel_rfl))
 f28:=Tryz.func118.trans (congrArg some (by kernel_rfl))
 f29:=Tryz.func123.trans (congrArg some (by kernel_rfl))
 f30:=Tryz.func83.trans (congrArg some (by kernel_rfl))
 f31:=Tryz.func84.trans (congrArg some (by kernel_rfl))
 f32:=Tryz.func85.trans (congrArg some (by kernel_rfl))
 f33:=Tryz.func86.trans (congrArg some (by kernel_rfl))
 f34:=Tryz.func101.trans (congrArg some (by kernel_rfl))
 f35:=Tryz.func102.trans (congrArg some (by kernel_rfl))
 f36:=Tryz.func103.trans (congrArg some (by kernel_rfl))
 f37:=Tryz.func104.trans (congrArg some (by kernel_rfl))
 f38:=Tryz.func105.trans (congrArg some (by kernel_rfl))
 f39:=Tryz.func113.trans (congrArg some (by kernel_rfl))
 f40:=Tryz.func114.trans (congrArg some (by kernel_rfl))
 t0:=Tryz.underlying0
 a0:=Tryz.isAgg0
 z0:=Tryz.sizeOf0
 v0:=Tryz.zeroValue0
 i0:=by kernel_rfl
 t2:=Tryz.underlying2
 a2:=Tryz.isAgg2
 z2:=Tryz.sizeOf2
 v2:=Tryz.zeroValue2
 i2:=by kernel_rfl
 t3:=Tryz.underlying3
 a3:=Tryz.isAgg3
 z3:=Tryz.sizeOf3
 v3:=Tryz.zeroValue3
 i3:=by kernel_rfl
 t4:=Tryz.underlying4
 a4:=Tryz.isAgg4
 z4:=Tryz.sizeOf4
 v4:=Tryz.zeroValue4
 i4:=by kernel_rfl
 t5:=Tryz.underlying5
 a5:=Tryz.isAgg5
 z5:=Tryz.sizeOf5
 v5:=Tryz.zeroValue5
 i5:=by kernel_rfl
 t9:=Tryz.underlying9
 a9:=Tryz.isAgg9
 z9:=Tryz.sizeOf9
 v9:=Tryz.zeroValue9
 i9:=by kernel_rfl
 t20:=Tryz.underlying20
 a20:=Tryz.isAgg20
 z20:=Tryz.sizeOf20
 v20:=Tryz.zeroValue20
 i20:=by kernel_rfl
 t21:=Tryz.underlying21
 a21:=Tryz.isAgg21
 z21:=Tryz.sizeOf21
 v21:=Tryz.zeroValue21
 i21:=by kernel_rfl
 t22:=Tryz.underlying23
 a22:=Tryz.isAgg23
 z22:=Tryz.sizeOf23
 v22:=Tryz.zeroValue23
 i22:=by kernel_rfl
 t24:=Tryz.underlying106
 a24:=Tryz.isAgg106
 z24:=Tryz.sizeOf106
 v24:=Tryz.zeroValue106
 i24:=by kernel_rfl
 t25:=Tryz.underlying107
 a25:=Tryz.isAgg107
 z25:=Tryz.sizeOf107
 v25:=Tryz.zeroValue107
 i25:=by kernel_rfl
 t34:=Tryz.underlying132
 a34:=Tryz.isAgg132
 z34:=Tryz.sizeOf132
 v34:=Tryz.zeroValue132
 i34:=by kernel_rfl
 c34:=by kernel_rfl
 t36:=Tryz.underlying79
 a36:=Tryz.isAgg79
 z36:=Tryz.sizeOf79
 v36:=Tryz.zeroValue79
 i36:=by kernel_rfl
 t37:=Tryz.underlying98
 a37:=Tryz.isAgg98
 z37:=Tryz.sizeOf98
 v37:=Tryz.zeroValue98
 i37:=by kernel_rfl
 t39:=Tryz.underlying134
 a39:=Tryz.isAgg134
 z39:=Tryz.sizeOf134
 v39:=Tryz.zeroValue134
 i39:=by kernel_rfl
 t44:=Tryz.underlying150
 a44:=Tryz.isAgg150
 z44:=Tryz.sizeOf150
 v44:=Tryz.zeroValue150
 i44:=by kernel_rfl
 t47:=Tryz.underlying154
 a47:=Tryz.isAgg154
 z47:=Tryz.sizeOf154
 v47:=Tryz.zeroValue154
 i47:=by kernel_rfl
 t48:=Tryz.underlying155
 a48:=Tryz.isAgg155
 z48:=Tryz.sizeOf155
 v48:=Tryz.zeroValue155
 i48:=by kernel_rfl
 t50:=Tryz.underlying157
 a50:=Tryz.isAgg157
 z50:=Tryz.sizeOf157
 v50:=Tryz.zeroValue157
 i50:=by kernel_rfl
 t52:=Tryz.underlying120
 a52:=Tryz.isAgg120
 z52:=Tryz.sizeOf120
 v52:=Tryz.zeroValue120
 i52:=by kernel_rfl
 t55:=Tryz.underlying123
 a55:=Tryz.isAgg123
 z55:=Tryz.sizeOf123
 v55:=Tryz.zeroValue123
 i55:=by kernel_rfl
 t59:=Tryz.underlying140
 a59:=Tryz.isAgg140
 z59:=Tryz.sizeOf140
 v59:=Tryz.zeroValue140
 i59:=by kernel_rfl
 t60:=Tryz.underlying26
 a60:=Tryz.isAgg26
 z60:=Tryz.sizeOf26
 v60:=Tryz.zeroValue26
 i60:=by kernel_rfl
 t61:=Tryz.underlying141
 a61:=Tryz.isAgg141
 z61:=Tryz.sizeOf141
 t65:=Tryz.underlying158
 a65:=Tryz.isAgg158
 z65:=Tryz.sizeOf158
 v65:=Tryz.zeroValue158
 i65:=by kernel_rfl
 t66:=Tryz.underlying159
 a66:=Tryz.isAgg159
 z66:=Tryz.sizeOf159
 v66:=Tryz.zeroValue159
 i66:=by kernel_rfl
 t67:=Tryz.underlying167
 a67:=Tryz.isAgg167
 z67:=Tryz.sizeOf167
 v67:=Tryz.zeroValue167
 i67:=by kernel_rfl
 g0:=by kernel_rfl
 m0:=by kernel_rfl
 g1:=by kernel_rfl
 m1:=by kernel_rfl
 g2:=by kernel_rfl
 m2:=by kernel_rfl
 g3:=by kernel_rfl
 m3:=by kernel_rfl
 g4:=by kernel_rfl
 m4:=by kernel_rfl }
open Go.RowKit in
theorem Tryz.strconv_ParseUint_10_at64_ok (s:ByteArray) (hmax:s.size≤9223372036854775806) (u:Nat) (h:Lib.parseUintB 64 s.data.toList=.ok u) (w:World) :
  Calls Tryz.prog 70 #[.string s,.int .i64 10,.int .i64 64] w fun e w'=>e=.returned (.tuple #[.int .u64 u,.nilIface])∧(w'=w∨w'=Lib.bytesWorld w 5 s):=Any.strconv_ParseUint_10_at64_ok Tryz.laysPu14 s hmax u h w
open Go.RowKit in
theorem Tryz.strconv_ParseUint_10_at64_range_var (s : ByteArray) (hlim : s.size ≤ 281474976710656) (h : Lib.parseUintB 64 s.data.toList = .range) (tp : TypeId) (p : Value) (w : World) (hvar : w.var? Tryz.prog "strconv.ErrRange" = some #[.iface tp p]) :
  Calls Tryz.prog 70 #[.string s,.int .i64 10,.int .i64 64] w fun e w'=>∃ N,e=.returned (.tuple #[.int .u64 18446744073709551615,.iface 134 (.pointer (some ⟨N,0,none⟩))])∧w.heap.size≤N∧w'.heap[N]?=some (.cells #[.string ⟨#[80,97,114,115,101,85,105,110,116]⟩,.string s,.iface tp p] 150 (0,0))∧Below w.heap.size w w':=Any.strconv_ParseUint_10_at64_range_var Tryz.laysPu14 s hlim h tp p w hvar
end Go.Proofs
/- A number's decimal text in the reference: the recursive Text returns the decimal digits. -/
namespace Go.Proofs.YtfpeholdlkfmoaaGreatDoor
set_option linter.unusedSimpArgs false
set_option linter.unusedVariables false
open Go.Shelf Go.RowKit Go.Lib
def decI (n:Int):List UInt8:=Lib.decDigits n.toNat
theorem textI (n:Int) (h0:0≤n) (h:n < 18446744073709551616) (w:World) (htab:Pow w) :
  Calls Tryz.prog 59 #[.int .u64 n] w fun e w'=>e=.returned (.string ⟨(decI n).toArray⟩)∧Below w.heap.size w w':=by
 have:=text n.toNat (by omega) w htab
 rw [show ((n.toNat:Nat):Int)=n by omega] at this
 exact this
end Go.Proofs.YtfpeholdlkfmoaaGreatDoor
/- Plain laws on decimal texts: when a text is some digits, the number that it says, and how the library's reader and its own reference answer. No program in sight. -/
namespace Go.Proofs.YtfpeholdlkfmoaaGreatDoor
set_option linter.unusedSimpArgs false
set_option linter.unusedVariables false
def dgt (c:UInt8):Bool:=decide (48≤c.toNat) && decide (c.toNat≤57)
def zU3 (l:List UInt8):Bool:=l.all dgt
def zN4 (a:Nat) (l:List UInt8):Nat:=l.foldl (fun n c=>10 * n+(c.toNat - 48)) a
def zY8 (l:List UInt8):Nat:=zN4 0 l
theorem zT5 (a:Nat) (c:UInt8) (l:List UInt8):zN4 a (c :: l)=zN4 (10 * a+(c.toNat - 48)) l:=by unfold zN4; rw [List.foldl_cons]
theorem zZ2 (l:List UInt8):∀ a,a≤zN4 a l:=by
 induction l with
 | nil=>intro a; exact Nat.le_refl _
 | cons c l ih=>intro a; rw [zT5]; exact Nat.le_trans (by omega) (ih _)
theorem drop_nil (p:UInt8→Bool) (l:List UInt8):l.dropWhile p=[] ↔ l.all p=true:=by
 induction l with
 | nil=>simp
 | cons a l ih =>
  rw [List.dropWhile_cons]
  by_cases h:p a=true
  ·rw [if_pos h,ih,List.all_cons,h,Bool.true_and]
  ·rw [if_neg h]; simp [h]
theorem all_drop (p:UInt8→Bool) (l:List UInt8):(l.dropWhile p).all p=l.all p:=by
 induction l with
 | nil=>rfl
 | cons a l ih =>
  rw [List.dropWhile_cons]
  by_cases h:p a=true
  ·rw [if_pos h,ih,List.all_cons,h,Bool.true_and]
  ·rw [if_neg h]
theorem trimS_nil (l cs:List UInt8):(Go.Lib.trimS l cs=[]) ↔ l.all (cs.contains ·)=true:=by
 unfold Go.Lib.trimS Go.Lib.trimLeftS Go.Lib.trimRightS
 rw [drop_nil,List.all_reverse,all_drop,List.all_reverse]
def tenDgts:List UInt8:=[48,49,50,51,52,53,54,55,56,57]
theorem ten_dgt (c:UInt8):tenDgts.contains c=dgt c:=by
 unfold tenDgts dgt
 rw [Bool.eq_iff_iff]
 simp only [List.contains_eq_mem,List.mem_cons,List.mem_nil_iff,or_false,decide_eq_true_eq,Bool.and_eq_true]
 constructor
 ·rintro (rfl | rfl | rfl | rfl | rfl | rfl | rfl | rfl | rfl | rfl) <;> decide
 ·intro ⟨h1,h2⟩
  have:c.toNat=48∨c.toNat=49∨c.toNat=50∨c.toNat=51∨c.toNat=52∨c.toNat=53∨c.toNat=54∨c.toNat=55∨c.toNat=56∨c.toNat=57:=by omega
  have e:∀ k:UInt8,c.toNat=k.toNat→c=k:=fun k h=>UInt8.toNat_inj.1 h
  rcases this with h | h | h | h | h | h | h | h | h | h
  ·exact .inl (e 48 h)
  ·exact .inr (.inl (e 49 h))
  ·exact .inr (.inr (.inl (e 50 h)))
  ·exact .inr (.inr (.inr (.inl (e 51 h))))
  ·exact .inr (.inr (.inr (.inr (.inl (e 52 h)))))
  ·exact .inr (.inr (.inr (.inr (.inr (.inl (e 53 h))))))
  ·exact .inr (.inr (.inr (.inr (.inr (.inr (.inl (e 54 h)))))))
  ·exact .inr (.inr (.inr (.inr (.inr (.inr (.inr (.inl (e 55 h))))))))
  ·exact .inr (.inr (.inr (.inr (.inr (.inr (.inr (.inr (.inl (e 56 h)))))))))
  ·exact .inr (.inr (.inr (.inr (.inr (.inr (.inr (.inr (.inr (e 57 h)))))))))
theorem trim_digits (l:List UInt8):(Go.Lib.trimS l tenDgts).isEmpty=zU3 l:=by
 rw [Bool.eq_iff_iff,List.isEmpty_iff,trimS_nil]
 unfold zU3
 have:(fun c=>tenDgts.contains c)=dgt:=funext ten_dgt
 rw [this]
theorem zW1 (M:Nat) (hM:M≤18446744073709551615):∀ (l:List UInt8) (a:Nat),zU3 l=true→a≤M →
  (zN4 a l≤M∧Go.Lib.parseUintM M a l=.ok (zN4 a l))∨(M < zN4 a l∧Go.Lib.parseUintM M a l=.range):=by
 intro l
 induction l with
 | nil=>intro a _ ha; exact .inl ⟨ha,rfl⟩
 | cons c l ih =>
  intro a hd ha
  simp only [zU3,List.all_cons,Bool.and_eq_true] at hd
  obtain ⟨hc,hl⟩:=hd
  simp only [dgt,Bool.and_eq_true,decide_eq_true_eq] at hc
  unfold Go.Lib.parseUintM
  rw [if_pos hc]
  rw [zT5,show 10 * a+(c.toNat - 48)=a * 10+(c.toNat - 48) by omega]
  by_cases h1:1844674407370955162≤a
  ·rw [if_pos h1]
   have:=zZ2 l (a * 10+(c.toNat - 48))
   exact .inr ⟨by omega,rfl⟩
  ·rw [if_neg h1]
   by_cases h2:M < a * 10+(c.toNat - 48)
   ·rw [if_pos h2]
    have:=zZ2 l (a * 10+(c.toNat - 48))
    exact .inr ⟨by omega,rfl⟩
   ·rw [if_neg h2]
    exact ih _ hl (by omega)
theorem zW2 (l:List UInt8) (hne:l ≠ []) (hd:zU3 l=true) :
  (zY8 l < 18446744073709551616∧Go.Lib.parseUintB 64 l=.ok (zY8 l))∨(18446744073709551616≤zY8 l∧Go.Lib.parseUintB 64 l=.range):=by
 unfold Go.Lib.parseUintB
 rw [if_neg hne]
 rcases zW1 (2 ^ 64 - 1) (by decide) l 0 hd (by omega) with ⟨h,e⟩ | ⟨h,e⟩
 ·exact .inl ⟨by unfold zY8; omega,e⟩
 ·exact .inr ⟨by unfold zY8; omega,e⟩
def zD8 (l:List UInt8):Option Nat:=if l ≠ []∧l.length≤20∧zU3 l=true∧zY8 l < 18446744073709551616 then some (zY8 l) else none
end Go.Proofs.YtfpeholdlkfmoaaGreatDoor
/- The functions of package nums and of its reference: what each returns, as plain functions of a text's bytes. -/
namespace Go.Proofs.YtfpeholdlkfmoaaGreatDoor
set_option linter.unusedSimpArgs false
set_option linter.unusedVariables false
open Go.Shelf Go.RowKit
structure Env (w:World):Prop where
 pow:Pow w
 rng : ∃ tp p, w.var? Tryz.prog "strconv.ErrRange" = some #[.iface tp p]
theorem Env.below {w w':World} (h:Env w) (hb:Below w.heap.size w w'):Env w':=by
 obtain ⟨tp,p,hv⟩:=h.rng
 have hg : Tryz.prog.globalNamed "strconv.ErrRange" = some 3 := by kernel_rfl
 refine ⟨h.pow.below hb,tp,p,var?_below hb hg ?_ hv⟩
 have hc:=World.var?_cell hg hv 0
 have:=Go.block_lt_of_cell (w:=w) (a:=⟨3,0,none⟩) (v:=.iface tp p) (by rw [hc]; rfl)
 exact this
def zR6 (l:List UInt8) (most:Int):Bool:=!l.isEmpty && (decide ((l.length:Int)≤most) && zU3 l)
theorem zero83:(Tryz.prog.info? 126).map (fun i=>(i.zero,i.size))=some (some (.agg (Array.replicate 256 (.bool false))),256):=by kernel_rfl
set_option maxRecDepth 100000 in
theorem trimD (l:List UInt8) (hl:l.length≤9223372036854775807) (w:World) :
  Calls Tryz.prog 79 #[.string ⟨l.toArray⟩,.string ⟨#[48,49,50,51,52,53,54,55,56,57]⟩] w fun e w'=>e=.returned (.string ⟨(Lib.trimS l tenDgts).toArray⟩)∧Below w.heap.size w w':=
 Any.strings_Trim_laid Tryz.lays160 zero83 ⟨l.toArray⟩ ⟨#[48,49,50,51,52,53,54,55,56,57]⟩ w (by simpa [ByteArray.size] using hl) (by decide) (ascii_of_all (by decide))
set_option maxHeartbeats 1000000 in
theorem digits (l:List UInt8) (hl:l.length≤9223372036854775807) (most:Int) (w:World) :
  Calls Tryz.prog 69 #[.string ⟨l.toArray⟩,.int .i64 most] w fun e w'=>e=.returned (.bool (zR6 l most))∧Below w.heap.size w w':=by
 by_cases h0:l=[]
 ·subst h0
  go_enter Tryz.func69,Tryz.ntmps69
  go_wp2_with fail
  go_ret
  exact ⟨rfl,Below.refl _ _⟩
 ·have h0':l.isEmpty=false:=by simpa using h0
  by_cases h1:(l.length:Int)≤most
  ·have hfin:zR6 l most=zU3 l:=by simp [zR6,h0',h1]
   have H:=fun w=>trimD l hl w
   have ht:=trim_digits l
   obtain ⟨t,e⟩:∃ t,t=Lib.trimS l tenDgts:=⟨_,rfl⟩
   rw [← e] at H ht
   rw [hfin,← ht]
   have HH:=Lib.hid H
   clear hfin H ht e
   have h0'':¬ l=[]:=h0
   go_enter Tryz.func69,Tryz.ntmps69
   go_wp2_with fail
   refine (HH.out _).mono ?_
   rintro e w1 ⟨rfl,hb⟩
   by_cases ht:t=[]
   ·subst ht
    go_wp2_with fail
    go_ret
    exact ⟨rfl,hb⟩
   ·have ht':t.isEmpty=false:=by simpa using ht
    go_wp2_with fail
    go_ret
    exact ⟨zH5 ht'.symm,hb⟩
  ·have hfin:zR6 l most=false:=by simp [zR6,h1]
   rw [hfin]
   have h1':most < (l.length:Int):=by omega
   clear hfin
   go_enter Tryz.func69,Tryz.ntmps69
   go_wp2_with fail
   go_ret
   exact ⟨rfl,Below.refl _ _⟩
def zO0 (l:List UInt8):Value:=.tuple #[.int .u64 ((zD8 l).getD 0:Nat),.bool (zD8 l).isSome]
theorem zW4 {l:List UInt8} (h:zD8 l=none):zO0 l=.tuple #[.int .u64 0,.bool false]:=by unfold zO0; rw [h]; rfl
theorem zW3 {l:List UInt8} {n:Nat} (h:zD8 l=some n):zO0 l=.tuple #[.int .u64 n,.bool true]:=by unfold zO0; rw [h]; rfl
set_option maxHeartbeats 1000000 in
set_option maxRecDepth 100000 in
theorem parse (l:List UInt8) (hl:l.length≤9223372036854775807) (w:World) (he:Env w) :
  Calls Tryz.prog 62 #[.string ⟨l.toArray⟩] w fun e w'=>e=.returned (zO0 l)∧Below w.heap.size w w':=by
 have D:=Lib.hid (fun w=>digits l (by omega) 20 w)
 by_cases hd:zR6 l 20=true
 ·have hd':=hd
  simp only [zR6,Bool.and_eq_true,Bool.not_eq_true',List.isEmpty_eq_false_iff,decide_eq_true_eq] at hd'
  obtain ⟨h0,h1,h2⟩:=hd'
  have hs:(⟨l.toArray⟩:ByteArray).data.toList=l:=rfl
  rcases zW2 l h0 h2 with ⟨h3,h4⟩ | ⟨h3,h4⟩
  ·have hv:zO0 l=.tuple #[.int .u64 (zY8 l:Nat),.bool true]:=by
    unfold zO0 zD8; rw [if_pos ⟨h0,by omega,h2,h3⟩]; rfl
   have H:=Lib.hid (fun w=>Tryz.strconv_ParseUint_10_at64_ok ⟨l.toArray⟩ (by simp [ByteArray.size]; omega) (zY8 l) h4 w)
   obtain ⟨u,hu⟩:∃ u,u=zY8 l:=⟨_,rfl⟩
   rw [← hu] at hv H
   rw [hv]
   have HD:=Lib.hid hd
   clear hd hs h4 h3 hu hv h0 h1 h2
   go_enter Tryz.func62,Tryz.ntmps62
   go_wp2_with fail
   refine (D.out _).mono ?_
   rintro e w1 ⟨rfl,hb⟩
   rw [HD.out]
   go_wp2_with fail
   refine (H.out _).mono ?_
   rintro e w2 ⟨rfl,hw⟩
   have hb2:Below w1.heap.size w1 w2:=by
    rcases hw with rfl | rfl
    ·exact Below.refl _ _
    ·exact Lib.bytesWorld_below _ _ _
   clear hw
   go_wp2_with fail
   go_ret2
   exact ⟨rfl,hb.trans (hb2.mono hb.size)⟩
  ·have hv:zO0 l=.tuple #[.int .u64 0,.bool false]:=by
    unfold zO0 zD8; rw [if_neg (fun h=>by omega)]; rfl
   have H:=Lib.hid (fun w tp p hv=>Tryz.strconv_ParseUint_10_at64_range_var ⟨l.toArray⟩ (by simp [ByteArray.size]; omega) h4 tp p w hv)
   rw [hv]
   have HD:=Lib.hid hd
   clear hd hs h4 h3 hv h0 h1 h2
   go_enter Tryz.func62,Tryz.ntmps62
   go_wp2_with fail
   refine (D.out _).mono ?_
   rintro e w1 ⟨rfl,hb⟩
   rw [HD.out]
   obtain ⟨tp,p,hvar⟩:=(he.below hb).rng
   have hvar:=Lib.hid hvar
   go_wp2_with fail
   refine (H.out _ _ _ hvar.out).mono ?_
   rintro e w2 ⟨N,rfl,_,_,hb2⟩
   go_wp2_with fail
   go_ret2
   exact ⟨rfl,hb.trans (hb2.mono hb.size)⟩
 ·have hd':zR6 l 20=false:=by simpa using hd
  have hv:zO0 l=.tuple #[.int .u64 0,.bool false]:=by
   unfold zO0 zD8
   rw [if_neg (fun ⟨a,b,c,_⟩=>by
    rw [zR6] at hd
    apply hd
    simp [a,c]; omega)]
   rfl
  rw [hv]
  have HD:=Lib.hid hd'
  clear hd hd' hv
  go_enter Tryz.func62,Tryz.ntmps62
  go_wp2_with fail
  refine (D.out _).mono ?_
  rintro e w1 ⟨rfl,hb⟩
  rw [HD.out]
  go_wp2_with fail
  go_ret2
  exact ⟨rfl,hb⟩
end Go.Proofs.YtfpeholdlkfmoaaGreatDoor
/- What the rows of the laws on numbers list, as the walks want it; a world for the witness. -/
namespace Go.Proofs.YtfpeholdlkfmoaaGreatDoor
set_option linter.unusedSimpArgs false
set_option linter.unusedVariables false
open Go.ChangeShapes Go.WideShapes Go.ChangeAt Go.RowKit
theorem zR4 {P:Program} {x:String × DataW Unit} {r:List (String × DataW Unit)} {W:World} (h:laidMet P (x :: r) W):laidMet P r W:=by
 obtain ⟨n,d⟩:=x
 obtain ⟨ps,⟨g,t,cs,fuel,p,q,h1,h2,h3,h4,h5,rfl⟩,hnd,hrow⟩:=h
 exact ⟨q,h5,(List.nodup_append.1 hnd).2.1,fun b off hm=>hrow b off (List.mem_append_right _ hm)⟩
theorem star : "*" ++ "errors.errorString" = "*errors.errorString" := by decide
theorem row_err (u : TypeId) (h : Tryz.prog.typeName? 3 u = some "*errors.errorString") : u = 155 :=
 typeName_ptr_named (P := Tryz.prog) (nm := "errors.errorString") (by rw [star]; kernel_rfl) (by kernel_rfl) (by decide) u (by rw [star]; exact h)
theorem env_of_laid {W:World} (h:laidMet Tryz.prog Rows.modelAppliesRow.laid W):Env W:=by
 refine ⟨pow_of_laid (List.mem_cons_of_mem _ (List.mem_cons_of_mem _ List.mem_cons_self)) h,?_⟩
 have h4 : laidMet Tryz.prog [("strconv.ErrRange", Rows.laid_strconv_ErrRange), ("strconv.ErrSyntax", Rows.laid_strconv_ErrSyntax), ("unicode/utf8.first", Rows.laid_unicode_utf8_first)] W := zR4 (zR4 (zR4 (zR4 h)))
 have hs:=laid_sentinel (ti:=106) (tp:=155) (te:=157) (ts:=9) h4 (g:=3) (by kernel_rfl) (by kernel_rfl) Tryz.underlying106 row_err Tryz.underlying155 Tryz.underlying157 rfl rfl Tryz.underlying9 (by kernel_rfl) (by kernel_rfl)
 obtain ⟨a,s,hv,_⟩:=hs
 exact ⟨_,_,hv⟩
def tabCells:DataW Unit→Array Value
 | .agg l=>(l.map fun x=>match x with | .lit (.int k n)=>Value.int k n | _=>undef).toArray
 | _=>#[]
noncomputable def laidWorld (os:Os):World:=
 { World.doorLaid Tryz.prog 2000 os with heap:=(World.doorLaid Tryz.prog 2000 os).heap.modify 6 fun
   | .cells _ t frozen=>.cells (tabCells Go.Pinned.utf8First) t frozen
   | o=>o }
end Go.Proofs.YtfpeholdlkfmoaaGreatDoor
/- Arguments that are slices of plain structs (numbers, texts, truths), opened: where each cell lies, and of what kind it is. -/
namespace Go.Proofs.YtfpeholdlkfmoaaGreatDoor
set_option linter.unusedSimpArgs false
set_option linter.unusedVariables false
open Go.ChangeShapes Go.WideShapes Go.ChangeAt Go.RowKit Go.Deep
inductive KD where
 | i (k:IntKind)
 | s
 | b
def kdOf (P:Program) (t:TypeId):Option KD:=match P.underlying t with
 | some (.int k)=>some (.i k)
 | some .string=>some .s
 | some .bool=>some .b
 | _=>none
def KD.ok:KD→Value→Prop
 | .i k,v=>∃ n,v=.int k n∧(Lit.int k n).wf=true
 | .s,v=>∃ l:List UInt8,v=.string ⟨l.toArray⟩∧l.length≤maxLen
 | .b,v=>∃ x,v=.bool x
def intV:Value→Int | .int _ n=>n | _=>0
def strV:Value→List UInt8 | .string s=>s.data.toList | _=>[]
def truV:Value→Bool | .bool b=>b | _=>false
section
variable {H:Type} {enc:TypeId × Value→H} {P:Program} {w:World}
theorem kd_cell {t:TypeId} {kd:KD} {v:Value} {held:Bool} {m:Nat} {y:DataW H × List MemPlace} (hk:kdOf P t=some kd) (h:DataW.trod enc P w 0 (fun _=>true) held m t [v]=some y):kd.ok v:=by
 unfold kdOf at hk
 split at hk <;> simp only [Option.some.injEq,reduceCtorEq] at hk <;> subst hk
 ·rename_i k hu
  obtain ⟨n,hn,_,hw⟩:=DataW.trod_int hu h
  simp only [List.cons.injEq,and_true] at hn
  exact ⟨n,hn,hw⟩
 ·rename_i hu
  obtain ⟨s,hs,_,hl⟩:=DataW.trod_string hu h
  simp only [List.cons.injEq,and_true] at hs
  obtain ⟨⟨l⟩⟩:=s
  exact ⟨l,hs,hl⟩
 ·rename_i hu
  obtain ⟨x,hx,_⟩:=DataW.trod_bool hu h
  simp only [List.cons.injEq,and_true] at hx
  exact ⟨x,hx⟩
def kinds (P:Program) (e:TypeId):Option (List (Option KD)):=match P.underlying e with
 | some (.struct fs)=>if oneCellFields P fs && P.cellsOf e == fs.size then some (fs.toList.map fun f=>kdOf P f.type) else none
 | _=>none
theorem open_rows {base:Nat} {t e:TypeId} {ks:List KD} {v:Value} {d:DataW H} {ps:List MemPlace} (ht:P.underlying t=some (.slice e)) (hks:kinds P e=some (ks.map some)) (hpos:0 < ks.length) (hv:Value.okWide P w .any base t v) (h:DataW.Trod enc P w 0 (fun _=>true) true t v d ps) :
  ∃ (A:Option Addr) (n c:Nat),v=.slice A n c∧n≤maxLen∧∀ k,k < n→∃ b o,A=some ⟨b,o,none⟩∧b < w.heap.size∧∀ j kd,ks[j]?=some kd→∃ u,w.cell? ⟨b,o+k * ks.length+j,none⟩=some u∧kd.ok u:=by
 obtain ⟨a0,len,cap,rfl⟩:=okWide_slice ht hv
 obtain ⟨fuel,hf⟩:=h
 unfold kinds at hks
 split at hks <;> try cases hks
 rename_i fs hu
 split at hks <;> simp only [Option.some.injEq,reduceCtorEq] at hks
 rename_i hone
 simp only [Bool.and_eq_true,beq_iff_eq] at hone
 obtain ⟨A,n,c,jB,hn,hel⟩:=open_structs ht hu hone.1 hone.2 hf
 have e0:Value.slice a0 len cap=.slice A n c:=by simpa [Value.cells] using jB
 have hsz:fs.size=ks.length:=by have:=congrArg List.length hks; simpa using this
 have hat:∀ (j:Nat) (kd:KD),ks[j]?=some kd→∃ f,fs[j]?=some f∧kdOf P f.type=some kd:=fun j kd hj=>by
  have h1:(fs.toList.map fun f=>kdOf P f.type)[j]?=(ks.map some)[j]?:=by rw [hks]
  rw [List.getElem?_map,List.getElem?_map,hj] at h1
  simp only [Option.map_some,Option.map_eq_some_iff] at h1
  obtain ⟨f,hf1,hf2⟩:=h1
  exact ⟨f,by simpa using hf1,hf2⟩
 refine ⟨A,n,c,e0,hn,fun k hk=>?_⟩
 obtain ⟨k0,hk0⟩:∃ k0,ks[0]?=some k0:=⟨ks[0]'hpos,List.getElem?_eq_getElem _⟩
 obtain ⟨f0,hf0,_⟩:=hat 0 k0 hk0
 obtain ⟨a,ha,hj⟩:=hel 0 (by omega)
 obtain ⟨v0,_,_,hc0,_⟩:=hj 0 f0 hf0
 rw [Nat.zero_mul,Nat.zero_add] at hc0
 obtain ⟨b,o,rfl,hb⟩:=zZ6 hc0
 refine ⟨b,o,ha,hb,fun j kd hjk=>?_⟩
 obtain ⟨f,hf1,hf2⟩:=hat j kd hjk
 obtain ⟨a',ha',hj'⟩:=hel k hk
 rw [ha] at ha'; cases ha'
 obtain ⟨u,y,m,hc,hr⟩:=hj' j f hf1
 rw [hsz,Go.WideShapes.add_plain,← Nat.add_assoc] at hc
 exact ⟨u,hc,kd_cell hf2 hr⟩
end
end Go.Proofs.YtfpeholdlkfmoaaGreatDoor
/- A symbolic walk: values as the walk sees them, what they mean in a world, and the operations that only compute or read. No program in sight. -/
namespace Go.Proofs.YtfpeholdlkfmoaaGreatDoor
set_option linter.unusedSimpArgs false
set_option linter.unusedVariables false
open Go.RowKit
inductive SC where
 | v (x:Value)
 | i (k:IntKind) (n:Int)
 | b (x:Bool)
 | s (l:List UInt8)
 | p (c o:Nat)
 | sl (c o n m:Nat)
 | rw (c n:Nat)
 | f (fn:Fn) (cap:List (Nat × Nat))
 | u
inductive TE where
 | c (x:SC)
 | g (l:List SC)
inductive SV where
 | c (x:SC)
 | g (l:List SC)
 | t (l:List TE)
structure RE where
 blk:Nat
 pre:List Value
 post:List Value
 cap:Nat
 nl:Option (Option Addr)
def zG5 (ρ:Nat→RE) (c o:Nat):Value:=.pointer (some ⟨(ρ c).blk,(ρ c).pre.length+o,none⟩)
def zE9 (r:RE) (n:Nat):Value:=match r.nl with
 | none=>.slice (some ⟨r.blk,0,none⟩) n r.cap
 | some p=>.slice p n 0
def SC.den (ρ:Nat→RE):SC→Value
 | .v x=>x
 | .i k n=>.int k n
 | .b x=>.bool x
 | .s l=>.string ⟨l.toArray⟩
 | .p c o=>zG5 ρ c o
 | .sl c o n m=>.slice (some ⟨(ρ c).blk,(ρ c).pre.length+o,none⟩) n m
 | .rw c n=>zE9 (ρ c) n
 | .f fn cap=>.func fn #[] (cap.map fun x=>zG5 ρ x.1 x.2).toArray
 | .u=>undef
theorem rwOf_sl (r:RE) (n:Nat):∃ a c,zE9 r n=.slice a n c:=by unfold zE9; split <;> exact ⟨_,_,rfl⟩
theorem zF2 {r:RE} (h:r.nl=none) (n:Nat):zE9 r n=.slice (some ⟨r.blk,0,none⟩) n r.cap:=by unfold zE9; rw [h]
theorem zG4 {r:RE} {p:Option Addr} (h:r.nl=some p) (n:Nat):zE9 r n=.slice p n 0:=by unfold zE9; rw [h]
def zC1 (ρ:Nat→RE) (l:List SC):List Value:=l.map (SC.den ρ)
def TE.den (ρ:Nat→RE):TE→Value
 | .c x=>x.den ρ
 | .g l=>.agg (zC1 ρ l).toArray
def SV.den (ρ:Nat→RE):SV→Value
 | .c x=>x.den ρ
 | .g l=>.agg (zC1 ρ l).toArray
 | .t l=>.tuple (l.map (TE.den ρ)).toArray
def TE.sv:TE→SV
 | .c x=>.c x
 | .g l=>.g l
theorem TE.den_sv (ρ:Nat→RE) (x:TE):x.sv.den ρ=x.den ρ:=by cases x <;> rfl
def SC.wf (pr:Nat→Prop):SC→Prop
 | .p c _=>pr c
 | .sl c _ _ _=>pr c
 | .rw c _=>pr c
 | .f _ cap=>∀ x∈cap,pr x.1
 | _=>True
def wfs (pr:Nat→Prop) (l:List SC):Prop:=∀ x∈l,x.wf pr
def TE.wf (pr:Nat→Prop):TE→Prop
 | .c x=>x.wf pr
 | .g l=>wfs pr l
def SV.wf (pr:Nat→Prop):SV→Prop
 | .c x=>x.wf pr
 | .g l=>wfs pr l
 | .t l=>∀ x∈l,x.wf pr
theorem TE.wf_sv {pr:Nat→Prop} {x:TE} (h:x.wf pr):x.sv.wf pr:=by cases x <;> exact h
section
variable {ρ ρ':Nat→RE} {pr pr':Nat→Prop}
theorem SC.den_congr {x:SC} (hx:x.wf pr) (h:∀ c,pr c→ρ' c=ρ c):x.den ρ'=x.den ρ:=by
 cases x with
 | p c o=>simp only [SC.den,zG5,h c hx]
 | sl c o n m=>simp only [SC.den,h c hx]
 | rw c n=>simp only [SC.den,h c hx]
 | f fn cap =>
  simp only [SC.den]
  congr 2
  exact List.map_congr_left fun y hy=>by simp only [zG5,h y.1 (hx y hy)]
 | _=>rfl
theorem zF9 {l:List SC} (hx:wfs pr l) (h:∀ c,pr c→ρ' c=ρ c):zC1 ρ' l=zC1 ρ l:=
 List.map_congr_left fun y hy=>SC.den_congr (hx y hy) h
theorem TE.den_congr {x:TE} (hx:x.wf pr) (h:∀ c,pr c→ρ' c=ρ c):x.den ρ'=x.den ρ:=by
 cases x with
 | c x=>exact SC.den_congr hx h
 | g l=>simp only [TE.den,zF9 hx h]
theorem SV.den_congr {x:SV} (hx:x.wf pr) (h:∀ c,pr c→ρ' c=ρ c):x.den ρ'=x.den ρ:=by
 cases x with
 | c x=>exact SC.den_congr hx h
 | g l=>simp only [SV.den,zF9 hx h]
 | t l =>
  simp only [SV.den]
  congr 2
  exact List.map_congr_left fun y hy=>TE.den_congr (hx y hy) h
theorem SC.wf_mono {x:SC} (hx:x.wf pr) (h:∀ c,pr c→pr' c):x.wf pr':=by
 cases x with
 | p c o=>exact h _ hx
 | sl c o n m=>exact h _ hx
 | rw c n=>exact h _ hx
 | f fn cap=>exact fun y hy=>h _ (hx y hy)
 | _=>trivial
theorem zJ3 {l:List SC} (hx:wfs pr l) (h:∀ c,pr c→pr' c):wfs pr' l:=fun y hy=>SC.wf_mono (hx y hy) h
theorem TE.wf_mono {x:TE} (hx:x.wf pr) (h:∀ c,pr c→pr' c):x.wf pr':=by
 cases x with
 | c x=>exact SC.wf_mono hx h
 | g l=>exact zJ3 hx h
theorem SV.wf_mono {x:SV} (hx:x.wf pr) (h:∀ c,pr c→pr' c):x.wf pr':=by
 cases x with
 | c x=>exact SC.wf_mono hx h
 | g l=>exact zJ3 hx h
 | t l=>exact fun y hy=>TE.wf_mono (hx y hy) h
end
def whole:RE→Prop:=fun r=>r.pre=[]∧r.post=[]
structure EN where
 ty:TypeId × Nat × (RE→Prop)
 cells:List SC
 mu:Bool
structure TI where
 size:Nat
 agg:Bool
 zero:List SC
 fields:List (Nat × Nat × Bool)
 elem:Nat
 esize:Nat
 kd:Nat
 ik:IntKind
def qz:Value→SC
 | .int k n=>.i k n
 | .bool x=>.b x
 | .string l=>.s l.data.toList
 | x=>.v x
theorem zJ1 (ρ:Nat→RE) (x:Value):(qz x).den ρ=x:=by cases x <;> rfl
theorem zM8 (pr:Nat→Prop) (x:Value):(qz x).wf pr:=by cases x <;> trivial
def aggD:Option TypeDesc→Bool
 | some (.struct _)=>true
 | some (.array _ _)=>true
 | _=>false
def kdD:Option TypeDesc→Nat
 | some (.int _)=>1
 | some .string=>2
 | some (.slice _)=>3
 | some (.struct _)=>4
 | some (.array _ _)=>5
 | some (.pointer _)=>6
 | some .bool=>7
 | some (.interface _)=>8
 | _=>0
def ikD:Option TypeDesc→IntKind
 | some (.int k)=>k
 | _=>.i64
def zX7:Option TypeDesc→Nat
 | some (.slice e)=>e
 | some (.array _ e)=>e
 | some (.pointer e)=>e
 | _=>0
def zO2 (P:Program) (f:Field):Option (Nat × Nat × Bool):=
 match P.info? f.type,P.underlying f.type with
 | some i,some d=>some (f.offset,i.size,aggD (some d))
 | _,_=>none
def fieldsD (P:Program):TypeDesc→Option (List (Nat × Nat × Bool))
 | .struct fs=>fs.toList.mapM (zO2 P)
 | _=>some []
def zG2 (P:Program) (t:TypeId):Option TI:=
 if t=4294967295 then none else match P.info? t,P.underlying t with
 | some i,some d=>match i.zero,fieldsD P d,P.info? (zX7 (some d)) with
  | some z,some fs,some e=>some ⟨i.size,aggD (some d),z.cells.toList.map qz,fs,zX7 (some d),e.size,kdD (some d),ikD (some d)⟩
  | _,_,_=>none
 | _,_=>none
theorem zV2 (P:Program):zG2 P 4294967295=none:=by unfold zG2; rw [if_pos rfl]
def zA {α:Type}:Nat→List α→Option (List α)
 | 0,_=>some []
 | _+1,[]=>none
 | n+1,x :: l=>match zA n l with
  | some r=>some (x :: r)
  | none=>none
theorem zZ3 {α:Type}:∀ {n:Nat} {l r:List α},zA n l=some r→r=l.take n∧n≤l.length
 | 0,l,r,h=>by simp [zA] at h; simp [h]
 | n+1,[],r,h=>by simp [zA] at h
 | n+1,x :: l,r,h=>by
  simp only [zA] at h
  split at h
  ·rename_i q hq
   obtain ⟨h1,h2⟩:=zZ3 hq
   simp only [Option.some.injEq] at h
   subst h
   simp [h1]; omega
  ·cases h
def zC {α:Type}:Nat→List α→List α→Option (List α)
 | 0,[],l=>some l
 | 0,_ :: _,[]=>none
 | 0,v :: vs,_ :: l=>match zC 0 vs l with
  | some r=>some (v :: r)
  | none=>none
 | _+1,_,[]=>none
 | n+1,vs,x :: l=>match zC n vs l with
  | some r=>some (x :: r)
  | none=>none
theorem zL9 {α:Type}:∀ {n:Nat} {vs l r:List α},zC n vs l=some r→r=l.take n++vs++l.drop (n+vs.length)∧(n+vs.length≤l.length∨(vs=[]∧n≤l.length))
 | 0,[],l,r,h=>by simp [zC] at h; simp [h]
 | 0,_ :: _,[],r,h=>by simp [zC] at h
 | 0,v :: vs,x :: l,r,h=>by
  simp only [zC] at h
  split at h
  ·rename_i q hq
   obtain ⟨h1,h2⟩:=zL9 hq
   simp only [Option.some.injEq] at h
   subst h
   rw [h1]
   refine ⟨by simp,.inl ?_⟩
   rcases h2 with h2 | ⟨h2,_⟩
   ·simp at h2 ⊢; omega
   ·subst h2; simp
  ·cases h
 | n+1,vs,[],r,h=>by simp [zC] at h
 | n+1,vs,x :: l,r,h=>by
  simp only [zC] at h
  split at h
  ·rename_i q hq
   obtain ⟨h1,h2⟩:=zL9 hq
   simp only [Option.some.injEq] at h
   subst h
   rw [h1]
   refine ⟨by simp [Nat.succ_add],?_⟩
   rcases h2 with h2 | ⟨h2,h3⟩
   ·left; simp; omega
   ·right; exact ⟨h2,by simp; omega⟩
  ·cases h
def zD {α:Type}:List α→Nat→Option α
 | [],_=>none
 | x :: _,0=>some x
 | _ :: l,n+1=>zD l n
theorem zA5 {α:Type}:∀ (l:List α) (n:Nat),zD l n=l[n]?
 | [],n=>by simp [zD]
 | x :: l,0=>rfl
 | x :: l,n+1=>by simp [zD,zA5 l n]
def zE {α:Type}:List α→Nat→α→List α
 | [],_,_=>[]
 | _ :: l,0,y=>y :: l
 | x :: l,n+1,y=>x :: zE l n y
theorem zL3 {α:Type}:∀ (l:List α) (n:Nat) (y:α),zE l n y=l.set n y
 | [],n,y=>by simp [zE]
 | x :: l,0,y=>rfl
 | x :: l,n+1,y=>by simp [zE,zL3 l n]
def qy:List (Nat × SV)→Nat→Option SV
 | [],_=>none
 | (d,v) :: l,t=>if d=t then some v else qy l t
def zG {α:Type}:List α→Nat
 | []=>0
 | _ :: l=>zG l+1
theorem zB9 {α:Type}:∀ l:List α,zG l=l.length
 | []=>rfl
 | _ :: l=>by simp [zG,zB9 l]
def qA {α:Type}:List α→List α→List α
 | [],m=>m
 | x :: l,m=>x :: qA l m
theorem appL_eq {α:Type}:∀ (l m:List α),qA l m=l++m
 | [],m=>rfl
 | x :: l,m=>by simp [qA,appL_eq l m]
def qB:Nat→List SC→List SC
 | 0,_=>[]
 | n+1,z=>qA z (qB n z)
def qC:Nat→Nat→Nat→List (Nat × Nat × Bool)
 | 0,_,_=>[]
 | n+1,o,s=>(o,s,false) :: qC n (o+s) s
def shlZ (k:IntKind) (a b:Int):Int:=k.wrap (a * 2 ^ (min b.toNat k.bits))
def shrZ (k:IntKind) (a b:Int):Int:=a.fdiv (2 ^ (min b.toNat k.bits))
def andZ (k:IntKind) (a b:Int):Int:=k.wrap ((BitVec.ofInt k.bits a &&& BitVec.ofInt k.bits b).toNat:Int)
def orZ (k:IntKind) (a b:Int):Int:=k.wrap ((BitVec.ofInt k.bits a ||| BitVec.ofInt k.bits b).toNat:Int)
def xorZ (k:IntKind) (a b:Int):Int:=k.wrap ((BitVec.ofInt k.bits a ^^^ BitVec.ofInt k.bits b).toNat:Int)
def qS (op:BinOp) (x y:SC):Option (Prop × SC):=
 match op,x,y with
 | .add,.i k a,.i k' b=>some (k=k',.i k (k.wrap (a+b)))
 | .sub,.i k a,.i k' b=>some (k=k',.i k (k.wrap (a - b)))
 | .mul,.i k a,.i k' b=>some (k=k',.i k (k.wrap (a * b)))
 | .quo,.i k a,.i k' b=>some (k=k'∧b ≠ 0,.i k (k.wrap (a.tdiv b)))
 | .rem,.i k a,.i k' b=>some (k=k'∧b ≠ 0,.i k (a.tmod b))
 | .eql,.i k a,.i k' b=>some (k=k',.b (a == b))
 | .neq,.i k a,.i k' b=>some (k=k',.b (a != b))
 | .lss,.i k a,.i k' b=>some (k=k',.b (decide (a < b)))
 | .leq,.i k a,.i k' b=>some (k=k',.b (decide (a≤b)))
 | .gtr,.i k a,.i k' b=>some (k=k',.b (decide (b < a)))
 | .geq,.i k a,.i k' b=>some (k=k',.b (decide (b≤a)))
 | .shl,.i k a,.i _ b=>some (0≤b,.i k (shlZ k a b))
 | .shr,.i k a,.i _ b=>some (0≤b,.i k (shrZ k a b))
 | .and,.i k a,.i k' b=>some (k=k',.i k (andZ k a b))
 | .or,.i k a,.i k' b=>some (k=k',.i k (orZ k a b))
 | .xor,.i k a,.i k' b=>some (k=k',.i k (xorZ k a b))
 | .add,.s a,.s b=>some (a.length+b.length≤9223372036854775807,.s (a++b))
 | .eql,.s a,.s b=>some (True,.b (a == b))
 | .neq,.s a,.s b=>some (True,.b (!(a == b)))
 | .lss,.s a,.s b=>some (True,.b (Op.bytesLess a b))
 | .leq,.s a,.s b=>some (True,.b (Op.bytesLess a b || a == b))
 | .gtr,.s a,.s b=>some (True,.b (!(Op.bytesLess a b || a == b)))
 | .geq,.s a,.s b=>some (True,.b (!Op.bytesLess a b))
 | _,_,_=>none
def q0t:SC→Bool
 | .v x=>x.oneCell'
 | .u=>false
 | _=>true
def qg (fs:List (Nat × Nat × Bool)) (ev:Operand→Option SV):List (Nat × Operand)→List SC→Option (List SC)
 | [],l=>some l
 | (i,x) :: r,l=>match zD fs i with
  | some (o,sz,_)=>match ev x with
   | some (.c y)=>match q0t y with
    | true=>if sz=1 then (match zC o [y] l with | some l'=>qg fs ev r l' | none=>none) else none
    | false=>none
   | some (.g ys)=>if sz=ys.length then (match zC o ys l with | some l'=>qg fs ev r l' | none=>none) else none
   | _=>none
  | none=>none
def qq:SC→Option Value
 | .v x=>some x
 | .i k n=>some (.int k n)
 | .b x=>some (.bool x)
 | .s l=>some (.string ⟨l.toArray⟩)
 | _=>none
def qD (P:Program) (ev:Operand→Option SV) (t:TypeId) (n:Nat) (ps:List (Nat × Operand)):Option (TypeId × List SC):=
 match zG2 P t with
 | some ⟨_,_,_,_,el,_,3,_⟩=>match zG2 P el with
  | some ⟨sz,_,z,_,_,_,_,_⟩=>match n,ps with
   | 0,[]=>some (el,[])
   | _,_=>if zG z=sz∧0 < sz∧0 < n∧n * sz≤65536 then match qg (qC n 0 sz) ev ps (qB n z) with
    | some l=>some (el,l)
    | none=>none else none
  | none=>none
 | _=>none
def qk (ev:Operand→Option SV):List Operand→Option (List (Nat × Nat))
 | []=>some []
 | x :: r=>match ev x with
  | some (.c (.p c o))=>match qk ev r with
   | some l=>some ((c,o) :: l)
   | none=>none
  | _=>none
def ql (ev:Operand→Option SV) (d:Int):Option Operand→Option Int
 | none=>some d
 | some x=>match ev x with
  | some (.c (.i _ n))=>some n
  | _=>none
end Go.Proofs.YtfpeholdlkfmoaaGreatDoor
