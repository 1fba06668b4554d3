/- slices.Insert of one item, all ways; slices.Delete of one. -/
import Derived.Test.YtfpeholdlkfmoaaGreatDoorBS05
import Derived.Deep.DeepCutAuto
import Derived.Deep.CutBlock
import Derived.Deep.RegionHeld3
import Derived.Lib.AppendZeros
import Derived.Test.YtfpeholdlkfmoaaGreatDoorBS03
import Derived.Test.YtfpeholdlkfmoaaGreatDoorBS04
namespace Go.Proofs.YtfpeholdlkfmoaaGreatDoor
set_option linter.unusedSimpArgs false
set_option linter.unusedVariables false
open Go.RowKit
theorem insert1 (base vb vc i:Nat) (v:Value) (xs:List It) (x:It) (w:World) (ho:w.ownsRow base 33 8 v xs.length (zD4 xs)) (hi:i≤xs.length) (hv:Blk w vb 33 (itA x)) (hne:v.ownBlock ≠ some vb) (hbase:base≤w.heap.size) (hn:xs.length≤1000000000) :
  Calls Tryz.prog 67 #[v,.int .i64 i,.slice (some ⟨vb,0,none⟩) 1 vc] w fun e w' =>
   ∃ v',e=.returned v'∧w'.ownsRow base 33 8 v' (xs.take i++x :: xs.drop i).length (zD4 (xs.take i++x :: xs.drop i))∧Upd (fun k=>v.ownBlock=some k) w w'∧(v'.ownBlock=v.ownBlock∨∃ k,v'.ownBlock=some k∧w.heap.size≤k):=by
 by_cases hin:i=xs.length
 ·subst hin
  rw [List.take_length,List.drop_length]
  exact insert_end base vb vc v xs x w ho hv hbase hn
 ·rcases Items.of_own ho with ⟨_,rfl⟩ | ⟨g,cap,R,rfl,hb,hI⟩
  ·simp at hi hin; omega
  ·have hlen:(xs.take i++x :: xs.drop i).length=xs.length+1:=by rw [List.length_append,List.length_take,List.length_cons,List.length_drop]; omega
   have hle:=hI.le
   by_cases hc:xs.length+1≤cap
   ·refine (insert_shift g cap i vb vc xs R x w hI (by omega) hc hv (fun e=>hne (by rw [e]; rfl)) hn).mono ?_
    rintro e w' ⟨rfl,⟨R',hI'⟩,hu⟩
    refine ⟨_,rfl,?_,hu.mono fun k _ hk=>?_,.inl rfl⟩
    ·have h:=hI'.own hb
     rw [hlen] at h ⊢
     exact h
    ·rw [show k=g from hk]; rfl
   ·refine (insert_grow g cap i vb vc xs R x w hI (by omega) (by omega) hv hn).mono ?_
    rintro e w' ⟨G,R',rfl,hI',hu⟩
    refine ⟨_,rfl,?_,hu.non,.inr ⟨_,rfl,Nat.le_refl _⟩⟩
    have h:=hI'.own hbase
    rw [hlen] at h ⊢
    exact h
theorem zN6 {ops:Array Oper} {o:Oper} {a:Act} {w:World} {K:Act→World→Prop} {Q:Exit→Act→World→Prop} {E:Prop}
  (hg:o.guard=none) (d x:Operand) (dT sT:TypeId) (hop:o.op=Op.call { callee:=Callee.builtin Builtin.append,args:=#[d,x],argTypes:=#[dT,sT] })
  (v u:Value) (hd:a.eval d=v) (hx:a.eval x=u) {v':Value} {w':World} (hr:(Builtin.append_ #[dT,sT] o.type #[v,u]).run Tryz.prog w=.ok v' w') (hK:K (a.put o.dst v') w') :
  if Region.wanted o (yielded ops a.tmps)=true then Oper.wp Tryz.prog o a w K Q else E:=by
 have hw:Region.wanted o (yielded ops a.tmps)=true:=by simp [Region.wanted,hg]
 rw [if_pos hw]
 unfold Oper.wp
 simp [execOp,hop,resolve,invoke,builtin,hd,hx,hr,Result.andThen]
 exact hK
set_option maxRecDepth 100000 in
set_option maxHeartbeats 2000000 in
theorem delete1 (g cap i p:Nat) (xs:List It) (R:List Value) (w:World) (hI:Items w g cap xs R) (hp:xs.length=p+1) (hi:i≤p) (hn:xs.length≤1000000000) :
  Calls Tryz.prog 43 #[.slice (some ⟨g,0,none⟩) (p+1) cap,.int .i64 i,.int .i64 ((i:Int)+1)] w fun e w' =>
   e=.returned (.slice (some ⟨g,0,none⟩) p cap)∧(∃ R',Items w' g cap (xs.eraseIdx i) R')∧Upd (One g) w w':=by
 obtain ⟨i0,hi0,hz0,hz1,hz2⟩:=info_parts zU0
 have hbig:=hI.big
 have hle:=hI.le
 have hfit:=hI.fit
 unfold maxLen at hbig
 have hId:Items w.drew g cap xs R:=hI.kept rfl
 have hdl:(zD4 (xs.drop (i+1))).length=(p - i) * 8:=by rw [zB2,List.length_drop,hp]; congr 1; omega
 have hap:∀ (A:Addr) ty c,(p - i=0∨A=⟨g,(i+1) * 8,none⟩)→(Builtin.append_ #[22,22] ty #[.slice (some ⟨g,0,none⟩) i cap,.slice (some A) (p - i) c]).run Tryz.prog w.drew=.ok (.slice (some ⟨g,0,none⟩) p cap) (w.drew.setRow g (over (zD4 xs++R).toArray (i * 8) (zD4 (xs.drop (i+1))))):=fun A ty c hA=>by
  have h:=run_append_room (P:=Tryz.prog) (w:=w.drew) 22 ty 33 i0 Tryz.underlying22 hi0 g i cap _ hId.heap A (p - i) c (zD4 (xs.drop (i+1))) (by rw [hz1,hdl])
   (fun j u hj=>by
    have hj2:=(List.getElem?_eq_some_iff.1 hj).1
    rw [hdl] at hj2
    rcases hA with h0 | rfl
    ·omega
    ·rw [Addr.add_lit,hId.cell,List.getElem?_append_left (by rw [zB2]; omega)]
     rw [← zK3,List.getElem?_drop] at hj; exact hj)
   (zV0 _) (by omega) (by rw [hz1,hdl,List.size_toArray,List.length_append,zB2]; omega)
  rw [hz1,show i+(p - i)=p by omega] at h
  exact h
 have hpl:p < xs.length:=by omega
 have hI1:Items (w.drew.setRow g (over (zD4 xs++R).toArray (i * 8) (zD4 (xs.drop (i+1))))) g cap (xs.eraseIdx i++[xs[p]]) R:=by
  refine hId.over ?_ ?_
  ·rw [hdl,List.take_append_of_le_length (by rw [zB2]; omega),zM0,show i * 8+(p - i) * 8=p * 8 by omega,List.drop_append,zK3,show p * 8 - (zD4 xs).length=0 by rw [zB2]; omega,List.drop_zero,
    List.eraseIdx_eq_take_drop_succ,zL0,zL0,List.drop_eq_getElem_cons hpl,show xs.drop (p+1)=[] from List.drop_of_length_le (by omega)]
   simp only [List.append_assoc]
  ·rw [List.length_append,List.length_eraseIdx,if_pos (by omega),List.length_singleton]; omega
 obtain ⟨z,hz⟩:∃ z,z=xs[p]:=⟨_,rfl⟩
 rw [← hz] at hI1
 obtain ⟨W1,hW1⟩:∃ W1,W1=w.drew.setRow g (over (zD4 xs++R).toArray (i * 8) (zD4 (xs.drop (i+1)))):=⟨_,rfl⟩
 rw [← hW1] at hap hI1
 have hu1:Upd (One g) w W1:=by rw [hW1]; exact ((Upd.refl (One g) w).drew).setRow (g:=g) (fun _=>rfl) _
 have hel:(xs.eraseIdx i).length=p:=by rw [List.length_eraseIdx,if_pos (by omega)]; omega
 obtain ⟨W2,hcl,⟨R2,hI2⟩,hu2⟩:=hI1.clear p (by rw [List.length_append,hel]; omega)
 rw [List.take_left' hel] at hI2
 rw [List.length_append,hel,List.length_singleton,Nat.add_sub_cancel_left] at hcl
 have hu3:=hu1.same hu2
 have HAP:=Lib.hid hap; have HI2:=Lib.hid hI2; have HU3:=Lib.hid hu3
 rw [hp] at hn hle
 clear hap hI2 hu3 hu1 hu2 hW1 hI1 hel hz hpl hId hdl hfit hi0 hz0 hz1 hz2 hp hI
 have hb1:(0:Int)≤(i:Int):=by omega
 have hb2:(i:Int)≤(p:Int):=by omega
 have hb3:(i:Int)+1≤(p:Int)+1:=by omega
 have hb4:(p:Int)+1≤(cap:Int):=by omega
 have hb5:¬ (cap=i):=by omega
 have hb6:¬ (cap=p):=by omega
 have hb7:((i:Int) == (i:Int)+1)=false:=by simp; omega
 have hb8:((i:Int)+1).toNat=i+1:=by omega
 have hb9:(0:Int)≤(i:Int)+1:=by omega
 have hb10:(i:Int)≤(i:Int)+1:=by omega
 have hb11:(i:Int)≤(p:Int)+1:=by omega
 have hb12:i≤cap:=by omega
 have hb13:p≤cap:=by omega
 by_cases hcp:cap=i+1
 ·subst hcp
  obtain rfl:i=p:=by omega
  have hap:=fun ty c=>HAP.out ⟨g,0,none⟩ ty c (.inl (Nat.sub_self _))
  rw [Nat.sub_self] at hap
  have HAQ:=Lib.hid hap; clear hap
  go_enter Tryz.func43,Tryz.ntmps43
  go_wp2_with fail
  go_region_law (refine zN6 rfl _ _ 22 22 rfl (.slice (some ⟨g,0,none⟩) i (i+1)) (.slice (some ⟨g,0,none⟩) 0 0) (by simp [Act.eval,Act.put]) (by simp [Act.eval,Act.put]) (HAQ.out _ _) ?_)
  go_wp2_with fail
  go_ret
  exact ⟨rfl,⟨_,HI2.out⟩,HU3.out⟩
 ·have hap:=fun ty c=>HAP.out ⟨g,(i+1) * 8,none⟩ ty c (.inr rfl)
  have HAQ:=Lib.hid hap; clear hap
  go_enter Tryz.func43,Tryz.ntmps43
  go_wp2_with fail
  go_region_law (refine zN6 rfl _ _ 22 22 rfl (.slice (some ⟨g,0,none⟩) i cap) (.slice (some ⟨g,(i+1) * 8,none⟩) (p - i) (cap - (i+1))) (by simp [Act.eval,Act.put]) (by simp [Act.eval,Act.put]) (HAQ.out _ _) ?_)
  go_wp2_with fail
  go_ret
  exact ⟨rfl,⟨_,HI2.out⟩,HU3.out⟩
end Go.Proofs.YtfpeholdlkfmoaaGreatDoor
/- put: an item becomes the key's, with a token. -/
namespace Go.Proofs.YtfpeholdlkfmoaaGreatDoor
set_option linter.unusedSimpArgs false
set_option linter.unusedVariables false
open Go.RowKit
theorem ownsRow_succ8 {W:World} {base:Nat} {e:TypeId} {size:Nat} {v:Value} {k:Nat} {xs:List Value} (h:W.ownsRow base e size v (k+1) xs):∃ g cap,v=.slice (some ⟨g,0,none⟩) (k+1) cap:=by
 rcases h.2 with ⟨_,h0⟩ | ⟨g,cap,_,rfl,_⟩
 ·omega
 ·exact ⟨g,cap,rfl⟩
def OwnI (base:Nat) (w:World) (v:Value) (xs:List It):Prop:=(∃ p,v=.slice p 0 0∧xs=[])∨∃ g cap R,v=.slice (some ⟨g,0,none⟩) xs.length cap∧base≤g∧0 < cap∧Items w g cap xs R
def oB:Value→Option Nat
 | .slice (some a) _ (_+1)=>some a.block
 | _=>none
theorem oB_some {a:Addr} {n c k:Nat} (h:oB (.slice (some a) n c)=some k):a.block=k:=by
 cases c with
 | zero=>cases h
 | succ c=>exact Option.some.inj h
theorem zO1 {a:Addr} {n c:Nat} (h:0 < c):oB (.slice (some a) n c)=some a.block:=by
 cases c with
 | zero=>omega
 | succ c=>rfl
theorem zZ8 (p:Option Addr):oB (.slice p 0 0)=none:=by cases p <;> rfl
theorem oB_own {g n c:Nat} (h:0 < c):(Value.slice (some ⟨g,0,none⟩) n c).ownBlock=oB (.slice (some ⟨g,0,none⟩) n c):=by rw [zO1 h]; rfl
theorem OwnI.lt {base:Nat} {w:World} {v:Value} {xs:List It} (h:OwnI base w v xs):∀ k,oB v=some k→base≤k∧k < w.heap.size:=by
 intro k hk
 rcases h with ⟨p,rfl,_⟩ | ⟨g,cap,R,rfl,hb,_,hI⟩
 ·rw [zZ8] at hk; cases hk
 ·have:=oB_some hk
  subst this
  exact ⟨hb,hI.lt⟩
theorem OwnI.of_row {base:Nat} {w:World} {v:Value} {xs:List It} (h:w.ownsRow base 33 8 v xs.length (zD4 xs)):OwnI base w v xs:=by
 rcases Items.of_own h with ⟨h1,h2⟩ | ⟨g,cap,R,rfl,hb,hI⟩
 ·exact .inl ⟨none,h1,h2⟩
 ·by_cases hc:0 < cap
  ·exact .inr ⟨g,cap,R,rfl,hb,hc,hI⟩
  ·have h1:=hI.le
   have h2:xs=[]:=List.length_eq_zero_iff.1 (by omega)
   subst h2
   obtain rfl:cap=0:=by omega
   exact .inl ⟨_,rfl,rfl⟩
set_option maxRecDepth 100000 in
set_option maxHeartbeats 2000000 in
/-- slices.Insert of one item into an empty slice without room -/
theorem insert_none (vb vc:Nat) (p:Addr) (x:It) (w:World) (hv:Blk w vb 33 (itA x)) :
  Calls Tryz.prog 67 #[.slice (some p) 0 0,.int .i64 0,.slice (some ⟨vb,0,none⟩) 1 vc] w fun e w' =>
   ∃ g cap R,e=.returned (.slice (some ⟨g,0,none⟩) 1 cap)∧w.heap.size≤g∧0 < cap∧Items w' g cap [x] R∧Upd Non w w':=by
 obtain ⟨i0,hi0,hz0,hz1,hz2⟩:=info_parts zU0
 have hnews:∀ j u,x.cells[j]?=some u→w.cell? ((⟨vb,0,none⟩:Addr).add j)=some u:=fun j u hj=>by rw [Addr.add_lit,Nat.zero_add,hv.cell,getElem?_itA]; exact hj
 have hcl:=x.cells_len
 have hge:=grownCap_ge w 1 0 33
 have hcm:=grownCap_le_maxLen w 1 0 33 (by unfold maxLen; omega)
 have hr:∀ ty,(Builtin.append_ #[22,22] ty #[.slice (some p) 0 0,.slice (some ⟨vb,0,none⟩) 1 vc]).run Tryz.prog w=.ok (.slice (some ⟨w.heap.size,0,none⟩) 1 (grownCap w 1 0 33)) (w.drew.alloc (.cells (#[]++x.cells.toArray++Builtin.zeroCells (Value.agg (itA It.zero)).cells (grownCap w 1 0 33 - 1)) 33)):=fun ty=>by
  have h:=run_append_grow (P:=Tryz.prog) w 22 ty 33 i0 _ Tryz.underlying22 hi0 hz0 p 0 0 [] (by simp) (by simp) ⟨vb,0,none⟩ 1 vc x.cells (by rw [hz1]; rfl) hnews (by omega) (by omega) (by rw [nextslicecap_zero (by omega),hz2]; omega)
  simpa using h
 have hI:Items (w.drew.alloc (.cells (#[]++x.cells.toArray++Builtin.zeroCells (Value.agg (itA It.zero)).cells (grownCap w 1 0 33 - 1)) 33)) w.heap.size (grownCap w 1 0 33) [x] (Builtin.zeroCells (Value.agg (itA It.zero)).cells (grownCap w 1 0 33 - 1)).toList:=by
  refine ⟨?_,?_,hcm⟩
  ·refine (heap_alloc_new w.drew _).trans ?_
   congr 2
   apply Array.ext'
   simp [zD4]
  ·rw [zG8]
   show 1 * 8+(grownCap w 1 0 33 - 1) * 8=_
   omega
 have hU:Upd Non w (w.drew.alloc (.cells (#[]++x.cells.toArray++Builtin.zeroCells (Value.agg (itA It.zero)).cells (grownCap w 1 0 33 - 1)) 33)):=((Upd.refl _ w).drew).alloc _
 obtain ⟨w1,hw1⟩:∃ w1,w1=w.drew.alloc (.cells (#[]++x.cells.toArray++Builtin.zeroCells (Value.agg (itA It.zero)).cells (grownCap w 1 0 33 - 1)) 33):=⟨_,rfl⟩
 obtain ⟨cp,hcp⟩:∃ cp,cp=grownCap w 1 0 33:=⟨_,rfl⟩
 rw [← hw1] at hI hU hr
 rw [← hcp] at hI hr hge
 have HI:=Lib.hid hI; have HU:=Lib.hid hU; have HR:=Lib.hid hr
 clear hw1 hcp hI hU hr hnews hcl hcm hi0 hz0 hz1 hz2
 go_enter Tryz.func67,Tryz.ntmps67
 go_wp2_with (at_builtin; refine Lib.wpList_append_run _ rfl _ _ _ _ rfl _ _ rfl rfl _ _ (HR.out _) ?_)
 go_ret
 exact ⟨_,_,_,rfl,Nat.le_refl _,hge,HI.out,HU.out⟩
theorem insert1o (base vb vc i:Nat) (v:Value) (xs:List It) (x:It) (w:World) (ho:OwnI base w v xs) (hi:i≤xs.length) (hv:Blk w vb 33 (itA x)) (hne:oB v ≠ some vb) (hbase:base≤w.heap.size) (hn:xs.length≤1000000000) :
  Calls Tryz.prog 67 #[v,.int .i64 i,.slice (some ⟨vb,0,none⟩) 1 vc] w fun e w' =>
   ∃ g cap,e=.returned (.slice (some ⟨g,0,none⟩) (xs.length+1) cap)∧OwnI base w' (.slice (some ⟨g,0,none⟩) (xs.length+1) cap) (xs.take i++x :: xs.drop i)∧Upd (fun k=>oB v=some k) w w'∧(oB v=some g∨w.heap.size≤g):=by
 have hlen:(xs.take i++x :: xs.drop i).length=xs.length+1:=by rw [List.length_append,List.length_take,List.length_cons,List.length_drop]; omega
 have key:v.ownBlock=oB v→w.ownsRow base 33 8 v xs.length (zD4 xs)→Calls Tryz.prog 67 #[v,.int .i64 i,.slice (some ⟨vb,0,none⟩) 1 vc] w fun e w' =>
   ∃ g cap,e=.returned (.slice (some ⟨g,0,none⟩) (xs.length+1) cap)∧OwnI base w' (.slice (some ⟨g,0,none⟩) (xs.length+1) cap) (xs.take i++x :: xs.drop i)∧Upd (fun k=>oB v=some k) w w'∧(oB v=some g∨w.heap.size≤g):=by
  intro hob hrow
  refine (insert1 base vb vc i v xs x w hrow hi hv (by rw [hob]; exact hne) hbase hn).mono ?_
  rintro e w' ⟨v',rfl,ho3,hu3,hat3⟩
  have ho4:=OwnI.of_row ho3
  rw [hob] at hu3 hat3
  rw [hlen] at ho3
  obtain ⟨g',cap',rfl⟩:=ownsRow_succ8 ho3
  refine ⟨g',cap',rfl,ho4,hu3,?_⟩
  rcases hat3 with h | ⟨k,h,hk⟩
  ·exact .inl h.symm
  ·obtain rfl:g'=k:=Option.some.inj h
   exact .inr hk
 rcases ho with ⟨p,rfl,rfl⟩ | ⟨g,cap,R,rfl,hb,hc,hI⟩
 ·cases p with
  | none=>exact key rfl (World.ownsRow_nil w base _ _)
  | some p =>
   obtain rfl:i=0:=by simpa using hi
   refine (insert_none vb vc p x w hv).mono ?_
   rintro e w' ⟨g,cap,R,rfl,hg,hc,hI,hU⟩
   exact ⟨g,cap,rfl,.inr ⟨g,cap,R,rfl,by omega,hc,hI⟩,hU.non,.inr hg⟩
 ·exact key (oB_own hc) (hI.own hb)
structure WS (base:Nat) (w:World) (g:Nat) (v:Value) (X:St) (now:Int) (c:Cd) (most:Int) (i:Nat) (is:Bool):Prop where
 blk:Blk w g 66 (woA v X now c most i is)
 own:OwnI base w v X.items
 low:base≤g
theorem own_ne {w:World} {g base:Nat} {t:TypeId} {cs:Array Value} {v:Value} {xs:List It} (hb:Blk w g t cs) (ho:OwnI base w v xs) (ht:t ≠ 33):oB v ≠ some g:=by
 rcases ho with ⟨p,rfl,_⟩ | ⟨r,cap,R,rfl,_,_,hr⟩
 ·rw [zZ8]; intro h; cases h
 ·intro h
  obtain rfl:r=g:=oB_some h
  have:=hb.symm.trans hr.heap
  injection this with h1
  injection h1 with _ h2
  exact ht h2
theorem own_upd {w w':World} {S:Nat→Prop} {base:Nat} {v:Value} {xs:List It} (ho:OwnI base w v xs) (hu:Upd S w w') (hS:∀ k,oB v=some k→¬ S k):OwnI base w' v xs:=by
 rcases ho with h | ⟨r,cap,R,rfl,h2,h3,h4⟩
 ·exact .inl h
 ·exact .inr ⟨r,cap,R,rfl,h2,h3,h4.kept (hu.block r h4.lt (hS r (zO1 h3)))⟩
theorem below_of_upd {w w':World} {S:Nat→Prop} {base:Nat} (h:Upd S w w') (hb:base≤w.heap.size) (hS:∀ k,k < base→¬ S k):Below base w w':=
 ⟨h.os,h.tape,h.output,h.size,fun k hk=>h.block k (Nat.lt_of_lt_of_le hk hb) (hS k hk)⟩
theorem Items.drewN {w:World} {g cap:Nat} {xs:List It} {R:List Value} (h:Items w g cap xs R) (n:Nat):Items (w.drewN n) g cap xs R:=⟨h.heap,h.fit,h.big⟩
theorem Below.drewN {B:Nat} {w w':World} (h:Below B w w') (n:Nat):Below B w (w'.drewN n):=⟨h.os,h.tape,h.output,h.size,h.block⟩
theorem setCells_row {w:World} {g cap:Nat} {xs:List It} {R:List Value} (hI:Items w g cap xs R) (i:Nat) (hi:i < xs.length) (z:It) :
  w.setCells g (i * 8) z.cells=w.setRow g (over (zD4 xs++R).toArray (i * 8) z.cells):=by
 have h1:=run_storeCells_at Tryz.prog g (i * 8) 33 z.cells 0 _ w hI.heap (by rw [It.cells_len,List.size_toArray,List.length_append,zB2]; omega) z.cells_one
 have h2:=run_storeCells_cells (P:=Tryz.prog) g (i * 8) z.cells 0 w (fun j hj=>by
  rw [Nat.add_zero,hI.cell,List.getElem?_append_left (by rw [It.cells_len] at hj; rw [zB2]; omega),List.getElem?_eq_getElem (by rw [It.cells_len] at hj; rw [zB2]; omega)]; rfl) (fun j _=>by rw [Nat.add_zero]; exact hI.frozen _) z.cells_one
 have h3:=h2.symm.trans h1
 injection h3 with _ h4
theorem Items.put8 {w:World} {g cap:Nat} {xs:List It} {R:List Value} (hI:Items w g cap xs R) (i:Nat) (hi:i < xs.length) (z:It) :
  Items ((((((((w.setCell ⟨g,i * 8,none⟩ (.string ⟨z.key.toArray⟩)).setCell ⟨g,i * 8+1,none⟩ (.int .u32 z.flags)).setCell ⟨g,i * 8+2,none⟩ (.string ⟨z.val.toArray⟩)).setCell ⟨g,i * 8+3,none⟩ (.int .i64 z.exp)).setCell ⟨g,i * 8+4,none⟩ (.int .u64 z.cas)).setCell ⟨g,i * 8+5,none⟩ (.int .i64 z.last)).setCell ⟨g,i * 8+6,none⟩ (.bool z.stale)).setCell ⟨g,i * 8+7,none⟩ (.bool z.won)) g cap (xs.set i z) R ∧
  Upd (One g) w ((((((((w.setCell ⟨g,i * 8,none⟩ (.string ⟨z.key.toArray⟩)).setCell ⟨g,i * 8+1,none⟩ (.int .u32 z.flags)).setCell ⟨g,i * 8+2,none⟩ (.string ⟨z.val.toArray⟩)).setCell ⟨g,i * 8+3,none⟩ (.int .i64 z.exp)).setCell ⟨g,i * 8+4,none⟩ (.int .u64 z.cas)).setCell ⟨g,i * 8+5,none⟩ (.int .i64 z.last)).setCell ⟨g,i * 8+6,none⟩ (.bool z.stale)).setCell ⟨g,i * 8+7,none⟩ (.bool z.won)):=by
 show Items (w.setCells g (i * 8) z.cells) _ _ _ _∧Upd (One g) w (w.setCells g (i * 8) z.cells)
 rw [setCells_row hI i hi z]
 exact ⟨hI.put i hi z,(Upd.refl (One g) w).setRow (g:=g) (fun _=>rfl) _⟩
set_option maxRecDepth 100000 in
set_option maxHeartbeats 4000000 in
theorem put (base g:Nat) (v:Value) (X:St) (now:Int) (c:Cd) (most:Int) (i:Nat) (is:Bool) (x:It) (w:World) (h:WS base w g v X now c most i is) (hbase:base≤w.heap.size)
  (hi:i≤X.items.length) (his:is=true→i < X.items.length) (hn:X.items.length≤100000000) :
  Calls Tryz.prog 57 #[.pointer (some ⟨g,0,none⟩),.agg (itA x)] w fun e w' =>
   ∃ r cap,e=.returned (.pointer (some ⟨r,i * 8,none⟩))∧WS base w' g (.slice (some ⟨r,0,none⟩) (zJ4 X i is x).1.items.length cap) (zJ4 X i is x).1 now c most i is∧Upd (fun k=>k=g∨oB v=some k) w w'∧(oB v=some r∨w.heap.size≤r):=by
 have hgl:=h.blk.lt
 have e0:w.cell? ⟨g,0,none⟩=some v:=h.blk.cell 0
 have e1:w.cell? ⟨g,1,none⟩=some (.int .u64 X.cas):=h.blk.cell 1
 have zk:w.cell? ⟨g,21,none⟩=some (.int .i64 i):=h.blk.cell 21
 have zl:w.cell? ⟨g,22,none⟩=some (.bool is):=h.blk.cell 22
 have f1:=h.blk.frozen 1
 have H:=Lib.hid h; clear h
 go_enter Tryz.func57,Tryz.ntmps57
 simp only [itA]
 go_upto_region 2 with fail
 go_cut [] (fun wx=>Blk wx g 66 (woA v { X with cas:=IntKind.u64.wrap (X.cas+1) } now c most i is)∧Blk wx w.heap.size 33 (itA { x with cas:=IntKind.u64.wrap (X.cas+1) })∧Upd (One g) w wx)
 case first =>
  go_wp2_with fail
  go_meet
  refine ⟨((H.out.blk.set_ 1 _).alloc _).to rfl,?_,((Upd.refl (One g) w).setOne 1 _).alloc _⟩
  have hz:=Blk.new (w.setCell ⟨g,1,none⟩ (.int .u64 (IntKind.u64.wrap (X.cas+1)))) 33 (itA { x with cas:=IntKind.u64.wrap (X.cas+1) })
  rwa [show (w.setCell ⟨g,1,none⟩ (.int .u64 (IntKind.u64.wrap (X.cas+1)))).heap.size=w.heap.size by simp [World.setCell]] at hz
 case rest =>
  obtain ⟨hb,hbx,hu⟩:=hcut
  clear e0 e1 zk zl f1
  obtain ⟨y,hy⟩:∃ y:It,y={ x with cas:=IntKind.u64.wrap (X.cas+1) }:=⟨_,rfl⟩
  rw [← hy] at hbx
  have hvg:=own_ne H.out.blk H.out.own (by decide)
  have hown:OwnI base wc v X.items:=own_upd H.out.own hu (fun k hk e=>hvg (by rw [hk,show k=g from e]))
  have hgb:=H.out.low
  have hbl:Upd (fun k=>k=g∨oB v=some k) w wc:=hu.mono (fun k _ e=>.inl e)
  have HU:=Lib.hid hu; have HB:=Lib.hid hb; have HX:=Lib.hid hbx; have HO:=Lib.hid hown; have HBL:=Lib.hid hbl; have HY:=Lib.hid hy
  have e0:wc.cell? ⟨g,0,none⟩=some v:=hb.cell 0
  have zk:wc.cell? ⟨g,21,none⟩=some (.int .i64 i):=hb.cell 21
  have zl:wc.cell? ⟨g,22,none⟩=some (.bool is):=hb.cell 22
  have f0:=hb.frozen 0
  have x0:wc.cell? ⟨w.heap.size,0,none⟩=some (.string ⟨y.key.toArray⟩):=hbx.cell 0
  have x1:wc.cell? ⟨w.heap.size,1,none⟩=some (.int .u32 y.flags):=hbx.cell 1
  have x2:wc.cell? ⟨w.heap.size,2,none⟩=some (.string ⟨y.val.toArray⟩):=hbx.cell 2
  have x3:wc.cell? ⟨w.heap.size,3,none⟩=some (.int .i64 y.exp):=hbx.cell 3
  have x4:wc.cell? ⟨w.heap.size,4,none⟩=some (.int .u64 y.cas):=hbx.cell 4
  have x5:wc.cell? ⟨w.heap.size,5,none⟩=some (.int .i64 y.last):=hbx.cell 5
  have x6:wc.cell? ⟨w.heap.size,6,none⟩=some (.bool y.stale):=hbx.cell 6
  have x7:wc.cell? ⟨w.heap.size,7,none⟩=some (.bool y.won):=hbx.cell 7
  clear hu hb hbx hown hbl hy
  cases is with
  | true =>
   have hil:=his rfl
   rcases HO.out with ⟨p,_,h0⟩ | ⟨r,cap,R,rfl,hbr,hcp,hI⟩
   ·rw [h0] at hil; simp at hil
   have HCP:=Lib.hid hcp; clear hcp
   have HI:=Lib.hid hI; clear hI
   obtain ⟨n,hn'⟩:∃ n,n=X.items.length:=⟨_,rfl⟩
   rw [← hn'] at hil hn hi e0
   have HN:=Lib.hid hn'; clear hn'
   obtain ⟨u,hu⟩:∃ u,X.items[i]?=some u:=⟨X.items[i]'(by rw [← HN.out]; exact hil),List.getElem?_eq_getElem _⟩
   have r0:wc.cell? ⟨r,i * 8,none⟩=some (.string ⟨u.key.toArray⟩):=HI.out.at hu 0 (by omega)
   have r1:wc.cell? ⟨r,i * 8+1,none⟩=some (.int .u32 u.flags):=HI.out.at hu 1 (by omega)
   have r2:wc.cell? ⟨r,i * 8+2,none⟩=some (.string ⟨u.val.toArray⟩):=HI.out.at hu 2 (by omega)
   have r3:wc.cell? ⟨r,i * 8+3,none⟩=some (.int .i64 u.exp):=HI.out.at hu 3 (by omega)
   have r4:wc.cell? ⟨r,i * 8+4,none⟩=some (.int .u64 u.cas):=HI.out.at hu 4 (by omega)
   have r5:wc.cell? ⟨r,i * 8+5,none⟩=some (.int .i64 u.last):=HI.out.at hu 5 (by omega)
   have r6:wc.cell? ⟨r,i * 8+6,none⟩=some (.bool u.stale):=HI.out.at hu 6 (by omega)
   have r7:wc.cell? ⟨r,i * 8+7,none⟩=some (.bool u.won):=HI.out.at hu 7 (by omega)
   have s0:wc.frozen? ⟨r,i * 8,none⟩=false:=HI.out.frozen _
   have s1:wc.frozen? ⟨r,i * 8+1,none⟩=false:=HI.out.frozen _
   have s2:wc.frozen? ⟨r,i * 8+2,none⟩=false:=HI.out.frozen _
   have s3:wc.frozen? ⟨r,i * 8+3,none⟩=false:=HI.out.frozen _
   have s4:wc.frozen? ⟨r,i * 8+4,none⟩=false:=HI.out.frozen _
   have s5:wc.frozen? ⟨r,i * 8+5,none⟩=false:=HI.out.frozen _
   have s6:wc.frozen? ⟨r,i * 8+6,none⟩=false:=HI.out.frozen _
   have s7:wc.frozen? ⟨r,i * 8+7,none⟩=false:=HI.out.frozen _
   have HU2:=Lib.hid hu; clear hu
   have hgr:g ≠ r:=fun e=>hvg (by rw [e]; exact zO1 HCP.out)
   have hrg:r ≠ g:=fun e=>hgr e.symm
   go_wp2_with fail
   go_region_law (first
    | (go_simp; go_at_call 39; refine (item g r n cap i hil _ (by simpa using e0) (by simpa using zk)).mono ?_; rintro e w' ⟨rfl,q,rfl⟩))
   all_goals
    go_wp2_with fail
    refine (item g r n cap i hil _ (by go_simp) (by go_simp)).mono ?_
    rintro e w' ⟨rfl,q2,rfl⟩
    go_wp2_with fail
    go_ret
    have P:=fun k=>Items.put8 (HI.out.drewN k) i (by rw [← HN.out]; exact hil) y
    have hF:(zJ4 X i true x).1={ X with cas:=IntKind.u64.wrap (X.cas+1),items:=X.items.set i y }:=by rw [HY.out]; rfl
    rw [hF]
    have hl:(X.items.set i y).length=X.items.length:=List.length_set
    refine ⟨r,cap,rfl,⟨?_,?_,H.out.low⟩,?_⟩
    ·show Blk _ g _ (woA (.slice (some ⟨r,0,none⟩) (X.items.set i y).length cap) _ now c most i true)
     rw [hl]
     exact ((HB.out.drewN _).upd (P _).2 hgr).drewN _
    ·exact .inr ⟨r,cap,R,rfl,hbr,HCP.out,(P _).1.drewN _⟩
    ·exact ⟨((HBL.out.drewN _).trans (P _).2 (fun k _ e=>.inr (by rw [show k=r from e]; exact zO1 HCP.out))).drewN _,.inl (zO1 HCP.out)⟩
  | false =>
   have hxw:w.heap.size < wc.heap.size:=HX.out.lt
   have hvx:oB v ≠ some w.heap.size:=fun h=>by have:=(H.out.own.lt _ h).2; omega
   have HU1:∀ o,Upd (fun k=>oB v=some k) wc (wc.drew.alloc o):=fun o=>((Upd.refl _ wc).drew).alloc o
   have HU1:=Lib.hid HU1
   have hlt:∀ k,oB v=some k→k < wc.heap.size:=fun k hk=>(HO.out.lt k hk).2
   have HLT:=Lib.hid hlt; clear hlt
   have hlen:(X.items.take i++y :: X.items.drop i).length=X.items.length+1:=by rw [List.length_append,List.length_take,List.length_cons,List.length_drop]; omega
   have HLEN:=Lib.hid hlen; clear hlen
   have C:Calls Tryz.prog 67 #[v,.int .i64 i,.slice (some ⟨wc.heap.size,0,none⟩) 1 1] (wc.alloc (.cells (itA y) 33)).drew fun e w3 =>
     ∃ g' cap',e=.returned (.slice (some ⟨g',0,none⟩) (X.items.length+1) cap')∧w3.cell? ⟨g,0,none⟩=some v∧w3.frozen? ⟨g,0,none⟩=false ∧
      Hid (Blk w3 g 66 (woA v { X with cas:=IntKind.u64.wrap (X.cas+1) } now c most i false)∧OwnI base w3 (.slice (some ⟨g',0,none⟩) (X.items.length+1) cap') (X.items.take i++y :: X.items.drop i)∧Upd (fun k=>oB v=some k) wc w3∧(oB v=some g'∨wc.heap.size≤g')):=by
    have hU:Upd (fun k=>oB v=some k) wc (wc.alloc (.cells (itA y) 33)).drew:=((Upd.refl _ wc).alloc _).drew
    have hU0:Upd Non wc (wc.alloc (.cells (itA y) 33)).drew:=((Upd.refl _ wc).alloc _).drew
    have hsz:base≤wc.heap.size:=Nat.le_trans hbase HU.out.size
    refine (insert1o base wc.heap.size 1 i v X.items y _ (own_upd HO.out hU0 (fun k _ h=>h)) hi (Blk.new wc _ (itA y)).drew (fun hk=>by have:=HLT.out _ hk; omega) (Nat.le_trans hsz hU.size) (by omega)).mono ?_
    rintro e w3 ⟨g',cap',rfl,ho3,hu3,hat3⟩
    have hu4:=hU.same hu3
    have hb3:=HB.out.upd hu4 hvg
    exact ⟨g',cap',rfl,hb3.cell 0,hb3.frozen 0,Lib.hid ⟨hb3,ho3,hu4,hat3.imp id (fun hl=>Nat.le_trans hU0.size hl)⟩⟩
   have HC:=Lib.hid C; clear C
   have a0:∀ o,(wc.alloc o).cell? ⟨g,0,none⟩=some v:=fun o=>Lib.cell?_alloc_some o e0
   have a21:∀ o,(wc.alloc o).cell? ⟨g,21,none⟩=some (.int .i64 i):=fun o=>Lib.cell?_alloc_some o zk
   go_wp2_with fail
   go_cut [] (fun wx=>∃ g' cap',Blk wx g 66 (woA (.slice (some ⟨g',0,none⟩) (X.items.length+1) cap') { X with cas:=IntKind.u64.wrap (X.cas+1) } now c most i false)∧OwnI base wx (.slice (some ⟨g',0,none⟩) (X.items.length+1) cap') (X.items.take i++y :: X.items.drop i)∧Upd (fun k=>k=g∨oB v=some k) w wx∧(oB v=some g'∨w.heap.size≤g'))
   case first =>
    go_region_with (first
     | (go_at_call 67; refine HC.out.mono ?_; rintro e w3 ⟨g',cap',rfl,hc3,hf3,hR3⟩))
    all_goals
     go_wp2_with fail
     go_meet
     refine ⟨g',cap',(hR3.out.1.set_ 0 _).to rfl,?_,(HBL.out.trans hR3.out.2.2.1 (fun k _ e=>.inr e)).setCell (p:=⟨g,0,none⟩) (fun _=>.inl rfl) _,hR3.out.2.2.2.imp id (fun h=>Nat.le_trans HBL.out.size h)⟩
     have hng:=own_ne hR3.out.1 hR3.out.2.1 (by decide)
     exact own_upd hR3.out.2.1 ((Upd.refl (One g) w3).setOne 0 _) (fun k hk e=>hng (by rw [hk,show k=g from e]))
   case rest =>
    obtain ⟨g',cap',hb3,ho3,hbl3,hat3⟩:=hcut
    have d0:wc.cell? ⟨g,0,none⟩=some (.slice (some ⟨g',0,none⟩) (X.items.length+1) cap'):=hb3.cell 0
    have d21:wc.cell? ⟨g,21,none⟩=some (.int .i64 i):=hb3.cell 21
    have HB3:=Lib.hid hb3; have HO3:=Lib.hid ho3; have HBL3:=Lib.hid hbl3; have HAT3:=Lib.hid hat3; clear hb3 ho3 hbl3 hat3
    go_wp2_with fail
    refine (item g g' (X.items.length+1) cap' i (by omega) wc d0 d21).mono ?_
    rintro e w' ⟨rfl,q2,rfl⟩
    go_wp2_with fail
    go_ret
    have hF:(zJ4 X i false x).1={ X with cas:=IntKind.u64.wrap (X.cas+1),items:=X.items.take i++y :: X.items.drop i }:=by rw [HY.out]; rfl
    rw [hF]
    refine ⟨g',cap',rfl,⟨?_,?_,hgb⟩,HBL3.out.drewN _,HAT3.out⟩
    ·show Blk _ g _ (woA (.slice (some ⟨g',0,none⟩) (X.items.take i++y :: X.items.drop i).length cap') _ now c most i false)
     rw [HLEN.out]
     exact HB3.out.drewN _
    ·show OwnI base _ (.slice (some ⟨g',0,none⟩) (X.items.take i++y :: X.items.drop i).length cap') _
     rw [HLEN.out]
     exact own_upd HO3.out ((Upd.refl Non _).drewN q2) (fun k _ h=>h)
end Go.Proofs.YtfpeholdlkfmoaaGreatDoor
/- The model's state as entries of the symbolic walk: in and out. -/
namespace Go.Proofs.YtfpeholdlkfmoaaGreatDoor
set_option linter.unusedSimpArgs false
set_option linter.unusedVariables false
open Go.RowKit
def rowI (base:Nat) (xs:List It):RE→Prop:=fun r=>(r.nl=none∧base≤r.blk∧0 < r.cap∧r.cap≤maxLen∧r.pre=[]∧∃ R,r.post=zD4 xs++R∧xs.length * 8+R.length=r.cap * 8)∨(r.nl ≠ none∧xs=[]∧r.pre=[])
def winI (base:Nat) (xs:List It) (i:Nat):RE→Prop:=fun r=>base≤r.blk∧0 < r.cap∧r.cap≤maxLen∧r.pre=zD4 (xs.take i)∧∃ R,r.post=zD4 (xs.drop (i+1))++R∧xs.length * 8+R.length=r.cap * 8
def zG3 (base:Nat) (xs:List It):EN:=⟨(33,0,rowI base xs),[],true⟩
def zF1 (base:Nat) (xs:List It) (i:Nat) (x:It):EN:=⟨(33,i * 8,winI base xs i),itS x,true⟩
def woE (v:SC) (X:St) (now:Int) (c:Cd) (most:Int) (i:Nat) (is:Bool):EN:=⟨(66,0,whole),woS v X now c most i is,true⟩
theorem zO3 {xs:List It} {i:Nat} {x:It} (h:xs[i]?=some x):zD4 (xs.take i)++x.cells++zD4 (xs.drop (i+1))=zD4 xs:=by
 obtain ⟨hi,rfl⟩:=List.getElem?_eq_some_iff.1 h
 rw [List.append_assoc,← zH2,← zL0,← List.drop_eq_getElem_cons hi,List.take_append_drop]
theorem winI_set (base:Nat) (xs:List It) (i:Nat) (y:It):winI base (xs.set i y) i=winI base xs i:=by
 have h1:(xs.set i y).take i=xs.take i:=List.take_set_of_le (Nat.le_refl _)
 have h2:(xs.set i y).drop (i+1)=xs.drop (i+1):=List.drop_set_of_lt (Nat.lt_succ_self _)
 unfold winI
 rw [h1,h2,List.length_set]
def S0 (g:Nat) (v:Value):Nat→Prop:=fun k=>k=g∨oB v=some k
def Sh (base:Nat) (X:St) (i:Nat) (is:Bool) (vS:SC) (tl:List EN):Prop:=
 vS=.rw 1 X.items.length∧((is=false∧tl=[zG3 base X.items])∨(is=true∧∃ x,X.items[i]?=some x∧tl=[zF1 base X.items i x]))
theorem oB_rw {r:RE} {n k:Nat} (h:oB (zE9 r n)=some k):r.nl=none∧r.blk=k:=by
 cases hr:r.nl with
 | none=>rw [zF2 hr] at h; exact ⟨rfl,oB_some h⟩
 | some p=>rw [zG4 hr] at h; cases p <;> cases h
theorem cs2 {e0 e1:EN} {c:Nat} (h:c < [e0,e1].length):c=0∨c=1:=by simp at h; omega
theorem wo_wf {pr:Nat→Prop} {d n:Nat} (hd:pr d) (X:St) (now:Int) (c:Cd) (most:Int) (i:Nat) (is:Bool):wfs pr (woS (.rw d n) X now c most i is):=by
 intro y hy
 simp only [woS,List.mem_cons,List.not_mem_nil,or_false] at hy
 rcases hy with rfl | rfl | rfl | rfl | rfl | rfl | rfl | rfl | rfl | rfl | rfl | rfl | rfl | rfl | rfl | rfl | rfl | rfl | rfl | rfl | rfl | rfl | rfl <;> first | trivial | exact hd
theorem ws_at {base g:Nat} {v:Value} {X:St} {now:Int} {c:Cd} {most:Int} {i:Nat} {is:Bool} {w:World} (h:WS base w g v X now c most i is) (his:is=true→i < X.items.length) :
  ∃ vS tl ρ,At (S0 g v) ρ (woE vS X now c most i is :: tl) w∧ρ 0=⟨g,[],[],0,none⟩∧vS.den ρ=v∧Sh base X i is vS tl:=by
 have hb:=h.blk
 unfold Blk at hb
 have hne:=own_ne h.blk h.own (by decide)
 have mk:∀ (e1:EN) (re:RE),zE9 re X.items.length=v→e1.ty.1=33→(re.nl=none→w.heap[re.blk]?=some (.cells (re.pre++zC1 (fun q=>if q=0 then ⟨g,[],[],0,none⟩ else re) e1.cells++re.post).toArray 33 (0,0))∧re.blk ≠ g)→(re.nl ≠ none→e1.cells=[])→wfs (fun q=>q < 2) e1.cells→re.pre.length=e1.ty.2.1→e1.ty.2.2 re→S0 g v re.blk →
   At (S0 g v) (fun q=>if q=0 then ⟨g,[],[],0,none⟩ else re) [woE (.rw 1 X.items.length) X now c most i is,e1] w:=by
  intro e1 re h1 h2 h3 h4 h5 h6 h7 h8
  refine ⟨?_,?_,?_,?_⟩
  ·intro q ty cells mu hq he
   rcases cs2 hq with rfl | rfl
   ·simp only [zD,Option.some.injEq,woE,EN.mk.injEq] at he
    obtain ⟨rfl,rfl,rfl⟩:=he
    refine ⟨fun _=>?_,wo_wf (pr:=fun q=>q < 2) (d:=1) (by omega) _ _ _ _ _ _,fun hd=>absurd hd (by decide),fun hd=>absurd rfl hd⟩
    show w.heap[g]?=some (.cells ([]++zC1 _ (woS _ X now c most i is)++[]).toArray 66 (0,0))
    rw [List.nil_append,List.append_nil,hb,← h1]
    rfl
   ·simp only [zD,Option.some.injEq] at he
    subst he
    refine ⟨fun hd=>?_,h5,fun hd=>by rw [show ty.1=33 from h2] at hd; exact absurd hd (by decide),h4⟩
    rw [show ty.1=33 from h2]
    exact (h3 hd.2).1
  ·intro q ty cells mu hq he
   rcases cs2 hq with rfl | rfl
   ·simp only [zD,Option.some.injEq,woE,EN.mk.injEq] at he
    obtain ⟨rfl,rfl,rfl⟩:=he
    exact ⟨rfl,rfl,rfl⟩
   ·simp only [zD,Option.some.injEq] at he
    subst he
    exact ⟨h6,h7⟩
  ·intro q d hq hd hql hdl he
   rcases cs2 hq with rfl | rfl <;> rcases cs2 hd with rfl | rfl
   ·rfl
   ·exact absurd he.symm (h3 ((zB4 (c:=1) rfl).1 hdl).2).2
   ·exact absurd he (h3 ((zB4 (c:=1) rfl).1 hql).2).2
   ·rfl
  ·intro q ty cells hq he
   rcases cs2 hq with rfl | rfl
   ·exact .inl rfl
   ·exact h8
 rcases h.own with ⟨p,hv,h0⟩ | ⟨r,cap,R,hv,hbr,hcp,hI⟩
 ·have hf:is=false:=by
   cases is with
   | false=>rfl
   | true=>have:=his rfl; rw [h0] at this; simp at this
  refine ⟨.rw 1 X.items.length,[zG3 base X.items],_,mk (zG3 base X.items) ⟨g,[],[],0,some p⟩ ?_ rfl (fun h=>by cases h) (fun _=>rfl) (fun y hy=>nomatch hy) rfl (.inr ⟨by simp,h0,rfl⟩) (.inl rfl),rfl,?_,rfl,.inl ⟨hf,rfl⟩⟩
  ·rw [hv,h0]; rfl
  ·rw [hv,h0]; rfl
 ·have hob:oB v=some r:=by rw [hv]; exact zO1 hcp
  have hgr:r ≠ g:=fun e=>hne (by rw [hob,e])
  have hblk:w.heap[r]?=some (.cells (zD4 X.items++R).toArray 33 (0,0)):=hI.heap
  cases is with
  | false =>
   refine ⟨.rw 1 X.items.length,[zG3 base X.items],_,mk (zG3 base X.items) ⟨r,[],zD4 X.items++R,cap,none⟩ hv.symm rfl (fun _=>⟨by simpa [zG3,zC1] using hblk,hgr⟩) (fun h=>absurd rfl h) (fun y hy=>nomatch hy) rfl (.inl ⟨rfl,hbr,hcp,hI.big,rfl,R,rfl,hI.fit⟩) (.inr hob),rfl,hv.symm,rfl,.inl ⟨rfl,rfl⟩⟩
  | true =>
   have hi:=his rfl
   have hx:X.items[i]?=some (X.items[i]'hi):=List.getElem?_eq_getElem hi
   refine ⟨.rw 1 X.items.length,[zF1 base X.items i (X.items[i]'hi)],_,mk (zF1 base X.items i _) ⟨r,zD4 (X.items.take i),zD4 (X.items.drop (i+1))++R,cap,none⟩ hv.symm rfl (fun _=>⟨?_,hgr⟩) (fun h=>absurd rfl h) ?_ ?_ ⟨hbr,hcp,hI.big,rfl,R,rfl,hI.fit⟩ (.inr hob),rfl,hv.symm,rfl,.inr ⟨rfl,_,hx,rfl⟩⟩
   ·rw [hblk,← zO3 hx]
    simp only [List.append_assoc]
    rfl
   ·intro y hy
    simp only [zF1,itS,List.mem_cons,List.not_mem_nil,or_false] at hy
    rcases hy with rfl | rfl | rfl | rfl | rfl | rfl | rfl | rfl <;> trivial
   ·show (zD4 (X.items.take i)).length=i * 8
    rw [zB2,List.length_take,Nat.min_eq_left (by omega)]
def Of (base:Nat) (X:St) (en:List EN) (vS:SC):Prop:=
 ((∃ p,vS=.v (.slice p 0 0))∧X.items=[])∨∃ d,vS=.rw d X.items.length∧d ≠ 0∧(zD en d=some (zG3 base X.items)∨∃ j x,X.items[j]?=some x∧zD en d=some (zF1 base X.items j x))
theorem ws_ofP {C:Cx} {ρ:Nat→RE} {pr:Nat→Prop} {en:List EN} {w:World} {base:Nat} {X:St} {vS:SC} {now:Int} {c:Cd} {most:Int} {i:Nat} {is:Bool} (hw:Hw C ρ pr en w) (l0:pr 0) (h0:zD en 0=some (woE vS X now c most i is)) (hd:Of base X en vS) (hg:base≤(ρ 0).blk) :
  WS base w (ρ 0).blk (vS.den ρ) X now c most i is∧∀ k,oB (vS.den ρ)=some k→k ≠ (ρ 0).blk∧(C.S k∨C.w0.heap.size≤k):=by
 have hnl0:(ρ 0).nl=none:=Decidable.byContradiction fun hd=>by have:=(hw.hp 0 _ _ _ l0 h0).non hd; cases this
 have e0:=(hw.hp 0 _ _ _ l0 h0).heap ⟨(show (66:Nat) ≠ zE8 by decide),hnl0⟩
 obtain ⟨o1,o2,o3⟩:=hw.ho 0 _ _ _ l0 h0
 have hblk:Blk w (ρ 0).blk 66 (woA (vS.den ρ) X now c most i is):=by
  unfold Blk
  rw [e0,o2,o3]
  simp only [List.nil_append,List.append_nil]
  rfl
 rcases hd with ⟨⟨p,rfl⟩,hx⟩ | ⟨d,rfl,hd0,hd⟩
 ·refine ⟨⟨hblk,.inl ⟨p,rfl,hx⟩,hg⟩,fun k hk=>by rw [show (SC.v (.slice p 0 0)).den ρ=.slice p 0 0 from rfl,zZ8] at hk; cases hk⟩
 ·have ld:pr d:=(hw.hp 0 _ _ _ l0 h0).wf (.rw d X.items.length) (List.mem_cons_self ..)
  have on:(ρ d).nl=none→∃ R,Items w (ρ d).blk (ρ d).cap X.items R∧base≤(ρ d).blk∧0 < (ρ d).cap∧(C.S (ρ d).blk∨C.w0.heap.size≤(ρ d).blk)∧(ρ d).blk ≠ (ρ 0).blk:=by
   intro hnl
   have h0l:zE7 (ρ 0) (zD en 0)=false:=by
    rw [zB4 h0]
    exact ⟨(show (66:Nat) ≠ zE8 by decide),hnl0⟩
   rcases hd with hd | ⟨j,x,hx,hd⟩
   ·have e1:=(hw.hp d _ _ _ ld hd).heap ⟨(show (33:Nat) ≠ zE8 by decide),hnl⟩
    rcases (hw.ho d _ _ _ ld hd).2 with ⟨_,q1,qc,q2,q3,R,q4,q5⟩ | ⟨hn,_⟩
    ·refine ⟨R,⟨?_,q5,q2⟩,q1,qc,hw.mu d _ _ ld hd,fun e=>hd0 (hw.inj d 0 ld l0 ((zB4 hd).2 ⟨(show (33:Nat) ≠ zE8 by decide),hnl⟩) h0l e)⟩
     rw [e1,q3,q4]; rfl
    ·exact absurd hnl hn
   ·have e1:=(hw.hp d _ _ _ ld hd).heap ⟨(show (33:Nat) ≠ zE8 by decide),hnl⟩
    obtain ⟨_,q1,qc,q2,q3,R,q4,q5⟩:=hw.ho d _ _ _ ld hd
    refine ⟨R,⟨?_,q5,q2⟩,q1,qc,hw.mu d _ _ ld hd,fun e=>hd0 (hw.inj d 0 ld l0 ((zB4 hd).2 ⟨(show (33:Nat) ≠ zE8 by decide),hnl⟩) h0l e)⟩
    rw [e1,q3,q4,← zO3 hx]
    simp only [List.append_assoc]
    rfl
  cases hnl:(ρ d).nl with
  | none =>
   obtain ⟨R,hI,hbr,hcp,hS,hne⟩:=on hnl
   refine ⟨⟨hblk,.inr ⟨_,_,R,zF2 hnl _,hbr,hcp,hI⟩,hg⟩,fun k hk=>?_⟩
   obtain ⟨_,rfl⟩:=oB_rw hk
   exact ⟨hne,hS⟩
  | some p =>
   have hx0:X.items=[]:=by
    rcases hd with hd | ⟨j,x,hx,hd⟩
    ·rcases (hw.ho d _ _ _ ld hd).2 with ⟨hn,_⟩ | ⟨_,hn,_⟩
     ·rw [hnl] at hn; cases hn
     ·exact hn
    ·have:=(hw.hp d _ _ _ ld hd).non (by rw [hnl]; simp)
     cases this
   refine ⟨⟨hblk,.inl ⟨p,?_,hx0⟩,hg⟩,fun k hk=>?_⟩
   ·show zE9 (ρ d) _=_
    rw [zG4 hnl,hx0]; rfl
   ·have:=(oB_rw hk).1
    rw [hnl] at this; cases this
theorem ws_of {C:Cx} {ρ:Nat→RE} {en:List EN} {w:World} {base:Nat} {X:St} {vS:SC} {now:Int} {c:Cd} {most:Int} {i:Nat} {is:Bool} (hw:Hw C ρ (· < en.length) en w) (h0:zD en 0=some (woE vS X now c most i is)) (hd:Of base X en vS) (hg:base≤(ρ 0).blk) :
  WS base w (ρ 0).blk (vS.den ρ) X now c most i is∧∀ k,oB (vS.den ρ)=some k→k ≠ (ρ 0).blk∧(C.S k∨C.w0.heap.size≤k):=by
 have l0:0 < en.length:=by rw [zA5] at h0; exact (List.getElem?_eq_some_iff.1 h0).1
 exact ws_ofP hw l0 h0 hd hg
end Go.Proofs.YtfpeholdlkfmoaaGreatDoor
/- get where the key has an item, by the symbolic walk. -/
namespace Go.Proofs.YtfpeholdlkfmoaaGreatDoor
set_option linter.unusedSimpArgs false
set_option linter.unusedVariables false
set_option maxHeartbeats 8000000
open Go.RowKit
def OpR (base g:Nat) (v:Value) (X:St) (now:Int) (c:Cd) (most:Int) (i:Nat) (is:Bool) (an:An) (w:World) (e:Ending) (w':World):Prop:=
 e=.returned (.agg (anA an))∧∃ v',WS base w' g v' X now c most i is∧Upd (S0 g v) w w'∧∀ k,oB v'=some k→oB v=some k∨w.heap.size≤k
theorem zC4 {C:Cx} {fn:Func} {base g:Nat} {v:Value} {X:St} {now:Int} {c:Cd} {most:Int} {i:Nat} {is:Bool} {an:An} {w:World} {ρ:Nat→RE} {n:Nat} {kp:List Nat} {rs:List ResultVar} {en:List EN} {vS:SC} {v':SV}
  (hC:C=zL Tryz.prog fn (OpR base g v X now c most i is an w) (S0 g v) w ρ n kp) (hrs:fn.results.toList=rs) (hn:0 < n) (hρ:ρ 0=⟨g,[],[],0,none⟩) (hg:base≤g) (h0:zD en 0=some (woE vS X now c most i is)) (hd:Of base X en vS) (hv:v'=.g (anS an)):Fin C rs v' en:=by
 subst hC
 subst hv
 refine zK7 zL1 hrs fun ρ' w' hw _ _=>?_
 have e0:ρ' 0=⟨g,[],[],0,none⟩:=(hw.ini 0 hn).trans hρ
 obtain ⟨h1,h2⟩:=ws_of (base:=base) hw h0 hd (by rw [e0]; exact hg)
 rw [e0] at h1 h2
 refine ⟨rfl,_,h1,hw.up,fun k hk=>?_⟩
 obtain ⟨h3,h4⟩:=h2 k hk
 rcases h4 with (h4 | h4) | h4
 ·exact absurd h4 h3
 ·exact .inl h4
 ·exact .inr h4
def mC1:Ctr:=fun f en xs=>match f with
 | 58=>zC2 en xs
 | _=>mC0 f en xs
theorem zL7 {C:Cx} (hP:C.P=Tryz.prog):zE4 C mC1:=by
 intro f en xs p v h hp ρ w hup hHp hHo hinj hwf
 unfold mC1 at h
 split at h
 ·rw [hP]; exact ⟨fun args w=>Tryz.call58 args w,rowOther_ok h hp (At.roOf hHp hHo hinj) hwf⟩
 ·exact mC0_ok hP f en xs p v h hp ρ w hup hHp hHo hinj hwf
set_option maxRecDepth 100000
theorem get_is (base g:Nat) (v:Value) (X:St) (now:Int) (c:Cd) (most:Int) (i:Nat) (x:It) (w:World) (h:WS base w g v X now c most i true) (hx:X.items[i]?=some x)
  (hn0:1≤now) (hn1:now≤1099511627776) (hx0:-4398046511104≤x.exp) (hx1:x.exp≤9223372036854775807) :
  Calls Tryz.prog 34 #[.pointer (some ⟨g,0,none⟩)] w (OpR base g v { X with items:=X.items.set i (gotF now c x) } now c most i true ⟨1,gotF now c x,0,winB now c x,x.stale,x.won⟩ w):=by
 have hil:i < X.items.length:=(List.getElem?_eq_some_iff.1 hx).1
 have hil':(i:Int) < (X.items.length:Int):=by omega
 obtain ⟨vS,tl,ρ,hat,hρ,hv,hsh⟩:=ws_at h (fun _=>hil)
 rcases hsh with ⟨rfl,⟨h1,_⟩ | ⟨_,x',hx',rfl⟩⟩
 ·cases h1
 obtain rfl:x=x':=by rw [hx] at hx'; exact Option.some.inj hx'
 have key:=zB8 (R:=OpR base g v { X with items:=X.items.set i (gotF now c x) } now c most i true ⟨1,gotF now c x,0,winB now c x,x.stale,x.won⟩ w) Tryz.func34 rfl kp34 [.c (.p 0 0)] Tryz.ntmps34 hat (by simp [SV.wf,SC.wf]) (by simp) ?_
 ·simpa [SV.den,SC.den,zG5,hρ] using key
 intro C hC hP hk
 have hctr:=zL7 hP
 have hsub:IntKind.i64.wrap (x.exp - now)=x.exp - now:=IntWalk.i64_in _ (by omega)
 have fin:∀ (e:Int) (st wn:Bool),(⟨x.key,x.flags,x.val,e,x.cas,now,st,wn⟩:It)=gotF now c x→∀ a:List SC,a=anS ⟨1,gotF now c x,0,winB now c x,x.stale,x.won⟩→∀ l,Fin C res34 (.g a) (woE (.rw 1 X.items.length) X now c most i true :: ⟨(33,i * 8,winI base X.items i),[.s x.key,.i .u32 x.flags,.s x.val,.i .i64 e,.i .u64 x.cas,.i .i64 now,.b st,.b wn],true⟩ :: l):=by
  intro e st wn hy a ha l
  refine zC4 hC hres34 (by simp) hρ h.low (vS:=.rw 1 X.items.length) rfl (.inr ⟨1,?_,by decide,.inr ⟨i,gotF now c x,?_,?_⟩⟩) (by rw [ha])
  ·rw [List.length_set]
  ·rw [List.getElem?_set_self hil]
  ·rw [← hy]; unfold zF1; rw [winI_set]; rfl
 (refine zH1 hctr (rs:=res34) 300 _ _ _ ?_; simp (maxSteps:=1000000) only [VC,qE,qF,qG,qH,qI,qJ,qK,qO,qP,qQ,qT,qV,q0t,qv,ev,qw,qy,qz,zB,zD,zE,zF,zG,zI,zJ,TE.sv,zK,zM,↓reduceIte,reduceCtorEq,Value.oneCell',Nat.reduceEqDiff,Nat.reduceAdd,Nat.reduceLT,zP,zQ,zR,zT,zV,zb,zc,zh,zt,hP,hk,res34,kp34,woE,woS,zF1,itS,mC1,mC0,zB7,hil',Int.natCast_nonneg])
 by_cases hr:0≤c.recache
 ·by_cases he:x.exp=0
  ·have hne:(x.exp != 0)=false:=by simp [he]
   (refine zA1 hctr (by rw [hP]; rfl) rs34_6 [] (ensure_type_of% (Cmp.of (by simp (maxSteps := 1000000) only [qK, qO, qP, qQ, qR, qS, qV, qp, ev, qy, qz, zD, zM, ↓reduceIte, reduceCtorEq, Nat.reduceEqDiff, Nat.reduceAdd, zo, zt, cD, cO, jC, jD, jE, jN, hP, hr, hne]; rfl)) "" Cmp.mk) (by kernel_rfl) (by kernel_rfl) (by first | exact zA2 _ | kernel_rfl) (by kernel_rfl) (by rfl) (by rfl) (by first | exact zA0 _ | rfl) (by rfl) (by simp (maxSteps := 1000000) only [qK, qO, qP, qQ, qR, qS, qV, qp, ev, qy, qz, zD, zM, ↓reduceIte, reduceCtorEq, Nat.reduceEqDiff, Nat.reduceAdd, zT, zn, zo, zt, jD, jE, jN, jP, jQ, jR, jS, jT, hP, hr, hne]) ?_; refine zH1 hctr (rs := res34) 300 _ _ _ ?_; simp (maxSteps := 1000000) only [VC, zG, zI, zJ, ↓reduceIte, reduceCtorEq, Nat.reduceEqDiff, Nat.reduceAdd, zP, zQ, zt, jN, jO, hk, kp34])
   cases hw:x.won <;> cases hs:x.stale
   all_goals
    (refine zA1 hctr (by rw [hP]; rfl) rs34_7 [] (ensure_type_of% (Cmp.of (by simp (maxSteps := 1000000) only [qK, qO, qP, qQ, qT, qV, qf, qg, qp, q0t, qu, qv, ev, qy, qz, zC, zD, zE, zF, zG, zM, ↓reduceIte, Nat.reduceEqDiff, Nat.reduceAdd, zP, zV, zW, zt, cD, cO, jC, jD, jE, jF, jG, jH, jJ, jN, hP]; rfl)) "" Cmp.mk) (by kernel_rfl) (by kernel_rfl) (by first | exact zA2 _ | kernel_rfl) (by kernel_rfl) (by rfl) (by rfl) (by first | exact zA0 _ | rfl) (by rfl) (by simp (maxSteps := 1000000) only [qK, qO, qP, qQ, qT, qV, qf, qg, qp, q0t, qu, qv, ev, qy, qz, zC, zD, zE, zG, zM, ↓reduceIte, Nat.reduceEqDiff, Nat.reduceAdd, zP, zT, zV, zW, zm, zn, zq, zt, jD, jE, jF, jG, jH, jN, jP, jQ, jR, jS, jT, hP]) ?_; refine zH1 hctr (rs := res34) 300 _ _ _ ?_; simp (maxSteps := 1000000) only [VC, qE, qF, qG, qH, qI, qJ, qK, qO, qP, qQ, qV, qp, q0t, qu, qv, ev, qw, qy, qz, zA, zB, zC, zD, zE, zG, zI, zJ, TE.sv, zM, ↓reduceIte, reduceCtorEq, Nat.reduceEqDiff, Nat.reduceAdd, Nat.reduceLT, zP, zQ, zR, zS, zT, zW, zb, zc, zt, jN, jO, hP, hk, res34, kp34, mC1, mC0, zA3, hn0, hn1])
    refine ⟨fun hexp=>fin (zF3 now c.exp) _ _ ?_ _ ?_ _,fun hexp=>fin x.exp _ _ ?_ _ ?_ _⟩ <;> simp [gotF,winB,soonB,anS,hexp,hw,hs,hr,he]
  ·have hne:(x.exp != 0)=true:=by simpa using he
   (refine zA1 hctr (by rw [hP]; rfl) rs34_6 [] (ensure_type_of% (Cmp.of (by simp (maxSteps := 1000000) only [qK, qO, qP, qQ, qR, qS, qV, qp, ev, qy, qz, zD, zM, ↓reduceIte, reduceCtorEq, Nat.reduceEqDiff, Nat.reduceAdd, zo, zt, cD, cO, jC, jD, jE, jN, hP, hsub, hr, hne]; rfl)) "" Cmp.mk) (by kernel_rfl) (by kernel_rfl) (by first | exact zA2 _ | kernel_rfl) (by kernel_rfl) (by rfl) (by rfl) (by first | exact zA0 _ | rfl) (by rfl) (by simp (maxSteps := 1000000) only [qK, qO, qP, qQ, qR, qS, qV, qp, ev, qy, qz, zD, zM, ↓reduceIte, reduceCtorEq, Nat.reduceEqDiff, Nat.reduceAdd, zT, zn, zo, zt, jD, jE, jN, jP, jQ, jR, jS, jT, hP, hsub, hr, hne]) ?_; refine zH1 hctr (rs := res34) 300 _ _ _ ?_; simp (maxSteps := 1000000) only [VC, zG, zI, zJ, ↓reduceIte, reduceCtorEq, Nat.reduceEqDiff, Nat.reduceAdd, zP, zQ, zt, jN, jO, hk, kp34])
   cases hw:x.won <;> cases hs:x.stale
   all_goals
    (refine zA1 hctr (by rw [hP]; rfl) rs34_7 [] (ensure_type_of% (Cmp.of (by simp (maxSteps := 1000000) only [qK, qO, qP, qQ, qT, qV, qf, qg, qp, q0t, qu, qv, ev, qy, qz, zC, zD, zE, zF, zG, zM, ↓reduceIte, Nat.reduceEqDiff, Nat.reduceAdd, zP, zV, zW, zt, cD, cO, jC, jD, jE, jF, jG, jH, jJ, jN, hP]; rfl)) "" Cmp.mk) (by kernel_rfl) (by kernel_rfl) (by first | exact zA2 _ | kernel_rfl) (by kernel_rfl) (by rfl) (by rfl) (by first | exact zA0 _ | rfl) (by rfl) (by simp (maxSteps := 1000000) only [qK, qO, qP, qQ, qT, qV, qf, qg, qp, q0t, qu, qv, ev, qy, qz, zC, zD, zE, zG, zM, ↓reduceIte, Nat.reduceEqDiff, Nat.reduceAdd, zP, zT, zV, zW, zm, zn, zq, zt, jD, jE, jF, jG, jH, jN, jP, jQ, jR, jS, jT, hP]) ?_; refine zH1 hctr (rs := res34) 300 _ _ _ ?_; simp (maxSteps := 1000000) only [VC, qE, qF, qG, qH, qI, qJ, qK, qO, qP, qQ, qV, qp, q0t, qu, qv, ev, qw, qy, qz, zA, zB, zC, zD, zE, zG, zI, zJ, TE.sv, zM, ↓reduceIte, reduceCtorEq, Nat.reduceEqDiff, Nat.reduceAdd, Nat.reduceLT, zP, zQ, zR, zS, zT, zW, zb, zc, zt, jN, jO, hP, hk, res34, kp34, mC1, mC0, zA3, hn0, hn1])
    refine ⟨fun hexp=>fin (zF3 now c.exp) _ _ ?_ _ ?_ _,fun hexp=>fin x.exp _ _ ?_ _ ?_ _⟩ <;> simp [gotF,winB,soonB,anS,hexp,hw,hs,hr,he]
 ·(refine zA1 hctr (by rw [hP]; rfl) rs34_6 [] (ensure_type_of% (Cmp.of (by simp (maxSteps := 1000000) only [qK, qO, qP, qQ, qR, qS, qV, qp, ev, qy, qz, zD, zM, ↓reduceIte, reduceCtorEq, Nat.reduceEqDiff, Nat.reduceAdd, zp, zt, cD, cO, jC, jD, jE, jN, hP, hr]; rfl)) "" Cmp.mk) (by kernel_rfl) (by kernel_rfl) (by first | exact zA2 _ | kernel_rfl) (by kernel_rfl) (by rfl) (by rfl) (by first | exact zA0 _ | rfl) (by rfl) (by simp (maxSteps := 1000000) only [qK, qO, qP, qQ, qR, qS, qV, qp, ev, qy, qz, zD, zM, ↓reduceIte, reduceCtorEq, Nat.reduceEqDiff, Nat.reduceAdd, zT, zn, zp, zt, jD, jE, jN, jP, jQ, jR, jS, jT, hP, hr]) ?_; refine zH1 hctr (rs := res34) 300 _ _ _ ?_; simp (maxSteps := 1000000) only [VC, zG, zI, zJ, ↓reduceIte, reduceCtorEq, Nat.reduceEqDiff, Nat.reduceAdd, zP, zQ, zt, jN, jO, hk, kp34])
  cases hw:x.won <;> cases hs:x.stale
  all_goals
   (refine zA1 hctr (by rw [hP]; rfl) rs34_7 [] (ensure_type_of% (Cmp.of (by simp (maxSteps := 1000000) only [qK, qO, qP, qQ, qT, qV, qf, qg, qp, q0t, qu, qv, ev, qy, qz, zC, zD, zE, zF, zG, zM, ↓reduceIte, Nat.reduceEqDiff, Nat.reduceAdd, zP, zV, zW, zt, cD, cO, jC, jD, jE, jF, jG, jH, jJ, jN, hP]; rfl)) "" Cmp.mk) (by kernel_rfl) (by kernel_rfl) (by first | exact zA2 _ | kernel_rfl) (by kernel_rfl) (by rfl) (by rfl) (by first | exact zA0 _ | rfl) (by rfl) (by simp (maxSteps := 1000000) only [qK, qO, qP, qQ, qT, qV, qf, qg, qp, q0t, qu, qv, ev, qy, qz, zC, zD, zE, zG, zM, ↓reduceIte, Nat.reduceEqDiff, Nat.reduceAdd, zP, zT, zV, zW, zm, zn, zq, zt, jD, jE, jF, jG, jH, jN, jP, jQ, jR, jS, jT, hP]) ?_; refine zH1 hctr (rs := res34) 300 _ _ _ ?_; simp (maxSteps := 1000000) only [VC, qE, qF, qG, qH, qI, qJ, qK, qO, qP, qQ, qV, qp, q0t, qu, qv, ev, qw, qy, qz, zA, zB, zC, zD, zE, zG, zI, zJ, TE.sv, zM, ↓reduceIte, reduceCtorEq, Nat.reduceEqDiff, Nat.reduceAdd, Nat.reduceLT, zP, zQ, zR, zS, zT, zW, zb, zc, zt, jN, jO, hP, hk, res34, kp34, mC1, mC0, zA3, hn0, hn1])
   refine ⟨fun hexp=>fin (zF3 now c.exp) _ _ ?_ _ ?_ _,fun hexp=>fin x.exp _ _ ?_ _ ?_ _⟩ <;> simp [gotF,winB,soonB,anS,hexp,hw,hs,hr]
end Go.Proofs.YtfpeholdlkfmoaaGreatDoor
/- put, as a call in a walk. -/
namespace Go.Proofs.YtfpeholdlkfmoaaGreatDoor
set_option linter.unusedSimpArgs false
set_option linter.unusedVariables false
open Go.RowKit
def Moved (N:Nat) (en en':List EN) (vS:SC) (z0 zN:EN):Prop:=
 zD en' 0=some z0∧zD en' N=some zN ∧
 ∀ q,q ≠ 0→q ≠ N→((∀ n,vS ≠ .rw q n)∧zD en' q=zD en q)∨((∃ n,vS=.rw q n)∧∃ e,zD en q=some e∧zD en' q=some (zA4 e))
theorem moved_ok {C:Cx} {ρ:Nat→RE} {pr:Nat→Prop} {en en':List EN} {w w':World} {base:Nat} {X X':St} {vS:SC} {now:Int} {c:Cd} {most:Int} {i:Nat} {is:Bool} {x:It} {r cap N:Nat}
  (hw:Hw C ρ pr en w) (l0:pr 0) (lN:¬ pr N) (h0:zD en 0=some (woE vS X now c most i is)) (hd:Of base X en vS) (hg:base≤(ρ 0).blk)
  (hn0:C.n0≤N)
  (hm:Moved N en en' vS (woE (.rw N X'.items.length) X' now c most i is) (zF1 base X'.items i x)) (hx:X'.items[i]?=some x)
  (hW:WS base w' (ρ 0).blk (.slice (some ⟨r,0,none⟩) X'.items.length cap) X' now c most i is) (hU:Upd (fun k=>k=(ρ 0).blk∨oB (vS.den ρ)=some k) w w') (hr:oB (vS.den ρ)=some r∨w.heap.size≤r) :
  ∃ ρ',(∀ q,pr q→ρ' q=ρ q)∧ρ' N=⟨r,zD4 (X'.items.take i),(ρ' N).post,cap,none⟩∧Hw C ρ' (fun q=>pr q∨q=N) en' w':=by
 obtain ⟨hws,hown⟩:=ws_ofP hw l0 h0 hd hg
 obtain ⟨m0,mN,mq⟩:=hm
 have hblk':Blk w' (ρ 0).blk _ _:=hW.blk
 unfold Blk at hblk'
 rcases hW.own with ⟨p',hv,h0'⟩ | ⟨r',cap',R,hv,hbr,hcp,hI⟩
 ·rw [h0'] at hx; cases hx
 injection hv with hv1 hv2 hv3
 injection hv1 with hv1
 injection hv1 with hv1
 subst hv1
 subst hv3
 have hup:Upd C.S C.w0 w':=by
  refine hw.up.trans hU fun k hk hT=>?_
  rcases hT with rfl | hT
  ·exact (hw.mu 0 _ _ l0 h0).resolve_right (by omega)
  ·exact (hown k hT).2.resolve_right (by omega)
 have hne0:r ≠ (ρ 0).blk:=by
  rcases hr with hr | hr
  ·exact (hown r hr).1
  ·have:=hws.blk.lt; omega
 obtain ⟨ρ',hρ'⟩:∃ ρ':Nat→RE,ρ'=fun q=>if q=N then ⟨r,zD4 (X'.items.take i),zD4 (X'.items.drop (i+1))++R,cap,none⟩ else ρ q:=⟨_,rfl⟩
 have hold:∀ q,pr q→ρ' q=ρ q:=by
  intro q hq
  simp only [hρ']
  exact if_neg (fun h:q=N=>lN (h ▸ hq))
 have hnew:ρ' N=⟨r,zD4 (X'.items.take i),zD4 (X'.items.drop (i+1))++R,cap,none⟩:=by simp only [hρ',if_true]
 have z0:(0:Nat) ≠ N:=fun h=>lN (h ▸ l0)
 have hcase:∀ q ty cells mu,(pr q∨q=N)→zD en' q=some ⟨ty,cells,mu⟩ →
   (q=0∧(⟨ty,cells,mu⟩:EN)=woE (.rw N X'.items.length) X' now c most i is)∨(q=N∧(⟨ty,cells,mu⟩:EN)=zF1 base X'.items i x) ∨
   (pr q∧q ≠ 0∧q ≠ N∧(∀ n,vS ≠ .rw q n)∧zD en q=some ⟨ty,cells,mu⟩)∨(pr q∧q ≠ 0∧q ≠ N∧(∃ n,vS=.rw q n)∧∃ e,zD en q=some e∧(⟨ty,cells,mu⟩:EN)=zA4 e):=by
  intro q ty cells mu hq he
  by_cases hqN:q=N
  ·subst hqN
   exact .inr (.inl ⟨rfl,by rw [mN] at he; exact (Option.some.inj he).symm⟩)
  by_cases hq0:q=0
  ·subst hq0
   exact .inl ⟨rfl,by rw [m0] at he; exact (Option.some.inj he).symm⟩
  have hq':=hq.resolve_right hqN
  rcases mq q hq0 hqN with ⟨h1,h2⟩ | ⟨h1,e,h2,h3⟩
  ·exact .inr (.inr (.inl ⟨hq',hq0,hqN,h1,h2 ▸ he⟩))
  ·exact .inr (.inr (.inr ⟨hq',hq0,hqN,h1,e,h2,by rw [h3] at he; exact (Option.some.inj he).symm⟩))
 have hnl0:(ρ 0).nl=none:=Decidable.byContradiction fun hd=>by have:=(hw.hp 0 _ _ _ l0 h0).non hd; cases this
 have h0l:zE7 (ρ 0) (zD en 0)=false:=(zB4 h0).2 ⟨(show (66:Nat) ≠ zE8 by decide),hnl0⟩
 have hoff:∀ q,pr q→q ≠ 0→(∀ n,vS ≠ .rw q n)→zE7 (ρ q) (zD en q)=false→(ρ q).blk ≠ (ρ 0).blk∧oB (vS.den ρ) ≠ some (ρ q).blk:=by
  intro q hq hq0 hv hl
  refine ⟨fun h=>hq0 (hw.inj q 0 hq l0 hl h0l h),fun h=>?_⟩
  rcases hd with ⟨⟨p,rfl⟩,_⟩ | ⟨d,rfl,_,hd⟩
  ·rw [show (SC.v (.slice p 0 0)).den ρ=.slice p 0 0 from rfl,zZ8] at h; cases h
  ·obtain ⟨hdn,hb⟩:=oB_rw h
   have pd:pr d:=(hw.hp 0 _ _ _ l0 h0).wf (.rw d X.items.length) (List.mem_cons_self ..)
   have:d=q:=hw.inj d q pd hq (by rcases hd with hd | ⟨_,_,_,hd⟩ <;> exact (zB4 hd).2 ⟨(show (33:Nat) ≠ zE8 by decide),hdn⟩) hl hb
   subst this
   exact hv _ rfl
 have hlive:∀ q ty cells mu,zD en q=some ⟨ty,cells,mu⟩→ty.1 ≠ zE8∧(ρ q).nl=none→zE7 (ρ q) (zD en q)=false:=fun q ty cells mu he hl=>(zB4 he).2 hl
 refine ⟨ρ',hold,by rw [hnew],?_,?_,?_,hup,?_,?_⟩
 ·intro q ty cells mu hq he
  rcases hcase q ty cells mu hq he with ⟨rfl,h⟩ | ⟨rfl,h⟩ | ⟨hq',hq0,hqN,hv,h⟩ | ⟨hq',hq0,hqN,hv,e,h,h2⟩
  ·simp only [woE,EN.mk.injEq] at h
   obtain ⟨rfl,rfl,rfl⟩:=h
   refine ⟨fun _=>?_,by intro y hy; simp only [woS,List.mem_cons,List.not_mem_nil,or_false] at hy; rcases hy with rfl | rfl | rfl | rfl | rfl | rfl | rfl | rfl | rfl | rfl | rfl | rfl | rfl | rfl | rfl | rfl | rfl | rfl | rfl | rfl | rfl | rfl | rfl <;> first | trivial | exact Or.inr rfl,fun hd=>absurd hd (by decide),by rw [hold 0 l0]; exact fun h=>absurd hnl0 h⟩
   obtain ⟨_,o2,o3⟩:=hw.ho 0 _ _ _ l0 h0
   rw [hold 0 l0,o2,o3,List.nil_append,List.append_nil,hblk']
   show some (Obj.cells (woA _ X' now c most i is) _ _)=_
   have:(SC.rw N X'.items.length).den ρ'=.slice (some ⟨r,0,none⟩) X'.items.length cap  :=by simp [SC.den,hnew,zE9]
   rw [← this]
   rfl
  ·simp only [zF1,EN.mk.injEq] at h
   obtain ⟨rfl,rfl,rfl⟩:=h
   refine ⟨fun _=>?_,by intro y hy; simp only [itS,List.mem_cons,List.not_mem_nil,or_false] at hy; rcases hy with rfl | rfl | rfl | rfl | rfl | rfl | rfl | rfl <;> trivial,fun hd=>absurd (show (33:Nat)=zE8 from hd) (by decide),by rw [hnew]; exact fun h=>absurd rfl h⟩
   rw [hnew,hI.heap,← zO3 hx]
   simp only [List.append_assoc]
   rfl
  ·have hp:=hw.hp q ty cells mu hq' h
   refine ⟨fun hl=>?_,zJ3 hp.wf (fun _ h=>Or.inl h),hp.dead,by rw [hold q hq']; exact hp.non⟩
   rw [hold q hq'] at hl
   obtain ⟨k1,k2⟩:=hoff q hq' hq0 hv (hlive _ _ _ _ h hl)
   rw [hold q hq',zF9 hp.wf hold,hU.block _ (hw.lt hq' (hlive _ _ _ _ h hl)) (by rintro (h | h); exact k1 h; exact k2 h)]
   exact hp.heap hl
  ·simp only [zA4,EN.mk.injEq] at h2
   obtain ⟨rfl,rfl,rfl⟩:=h2
   exact ⟨fun hl=>absurd rfl hl.1,(fun y hy=>nomatch hy),fun _=>⟨rfl,rfl⟩,fun _=>rfl⟩
 ·intro q ty cells mu hq he
  rcases hcase q ty cells mu hq he with ⟨rfl,h⟩ | ⟨rfl,h⟩ | ⟨hq',hq0,hqN,hv,h⟩ | ⟨hq',hq0,hqN,hv,e,h,h2⟩
  ·simp only [woE,EN.mk.injEq] at h
   obtain ⟨rfl,rfl,rfl⟩:=h
   rw [hold 0 l0]
   exact hw.ho 0 _ _ _ l0 h0
  ·simp only [zF1,EN.mk.injEq] at h
   obtain ⟨rfl,rfl,rfl⟩:=h
   have hi:i < X'.items.length:=(List.getElem?_eq_some_iff.1 hx).1
   rw [hnew]
   exact ⟨by rw [zB2,List.length_take,Nat.min_eq_left (by omega)],hbr,hcp,hI.big,rfl,R,rfl,hI.fit⟩
  ·rw [hold q hq']
   exact hw.ho q _ _ _ hq' h
  ·cases e
   simp only [zA4,EN.mk.injEq] at h2
   obtain ⟨rfl,rfl,rfl⟩:=h2
   rw [hold q hq']
   have h3:=hw.ho q _ _ _ hq' h
   exact h3
 ·have hlv:∀ q,pr q→q ≠ 0→zE7 (ρ q) (zD en' q)=false→(∀ n,vS ≠ .rw q n)∧zD en' q=zD en q:=by
   intro q hq hq0 hl
   rcases mq q hq0 (fun h=>lN (h ▸ hq)) with h | ⟨_,e,_,h3⟩
   ·exact h
   ·rw [h3] at hl; exact absurd hl (by simp [zA4,zE7])
  have hNo:∀ q,pr q→zE7 (ρ q) (zD en' q)=false→(ρ q).blk ≠ r:=by
   intro q hq hl hb
   by_cases hq0:q=0
   ·subst hq0; exact hne0 hb.symm
   ·obtain ⟨k1,k2⟩:=hlv q hq hq0 hl
    rw [k2] at hl
    rcases hr with hr | hr
    ·exact (hoff q hq hq0 k1 hl).2 (by rw [hb]; exact hr)
    ·have:=hw.lt hq hl; omega
  intro q d hq hd hql hdl hb
  rcases hq with hq | rfl <;> rcases hd with hd | rfl
  ·rw [hold q hq,hold d hd] at hb
   rw [hold q hq] at hql
   rw [hold d hd] at hdl
   have hl:∀ z,pr z→zE7 (ρ z) (zD en' z)=false→zE7 (ρ z) (zD en z)=false:=by
    intro z hz hl
    by_cases hz0:z=0
    ·subst hz0; exact h0l
    ·rw [← (hlv z hz hz0 hl).2]; exact hl
   exact hw.inj q d hq hd (hl q hq hql) (hl d hd hdl) hb
  ·rw [hold q hq,hnew] at hb; rw [hold q hq] at hql; exact absurd hb (hNo q hq hql)
  ·rw [hold d hd,hnew] at hb; rw [hold d hd] at hdl; exact absurd hb.symm (hNo d hd hdl)
  ·rfl
 ·intro q ty cells hq he
  rcases hcase q ty cells true hq he with ⟨rfl,h⟩ | ⟨rfl,h⟩ | ⟨hq',hq0,hqN,hv,h⟩ | ⟨hq',hq0,hqN,hv,e,h,h2⟩
  ·rw [hold 0 l0]; exact hw.mu 0 _ _ l0 h0
  ·rw [hnew]
   rcases hr with hr | hr
   ·exact (hown r hr).2
   ·have:=hw.up.size; exact .inr (by show _≤r; omega)
  ·rw [hold q hq']; exact hw.mu q _ _ hq' h
  ·simp only [zA4,EN.mk.injEq] at h2
   exact absurd h2.2.2 (by decide)
 ·intro q hq
  simp only [hρ']
  rw [if_neg (by omega)]
  exact hw.ini q hq
theorem zC5 (X:St) (i:Nat) (is:Bool) (x:It) (hi:i≤X.items.length) (his:is=true→i < X.items.length):(zJ4 X i is x).1.items[i]?=some (zJ4 X i is x).2:=by
 cases is with
 | true =>
  show (X.items.set i _)[i]?=_
  rw [List.getElem?_set_self (his rfl)]; rfl
 | false =>
  show (X.items.take i++_ :: X.items.drop i)[i]?=_
  rw [List.getElem?_append_right (by rw [List.length_take]; omega),List.length_take,Nat.min_eq_left hi,Nat.sub_self]; rfl
theorem put_h {C:Cx} {nE N:Nat} {Y:St × It} {mk:Nat→Prop} {en en':List EN} {base:Nat} {X:St} {vS:SC} {now:Int} {c:Cd} {most:Int} {i:Nat} {is:Bool} (x:It)
  (hY:Y=zJ4 X i is x) (hP:C.P=Tryz.prog) (h0:zD en 0=some (woE vS X now c most i is)) (hd:Of base X en vS) (hb:base≤C.w0.heap.size) (hn0:0 < C.n0) (hn1:C.n0≤N) (hg:base≤(C.ρ0 0).blk)
  (hi:i≤X.items.length) (his:is=true→i < X.items.length) (hn:X.items.length≤100000000) (hE:0 < nE) (hmk:∀ q,mk q ↔ q=N)
  (hm:Moved N en en' vS (woE (.rw N Y.1.items.length) Y.1 now c most i is) (zF1 base Y.1.items i Y.2)) :
  zP3 C nE mk en en' 57 [.c (.p 0 0),.g (itS x)] (.c (.p N 0)):=by
 subst hY
 refine ⟨fun args w=>by rw [hP]; exact Tryz.call57 args w,?_⟩
 intro ρ pr w hpr hmn hw hex hwf
 rw [hP]
 have l0:pr 0:=hpr 0 hE
 have lN:¬ pr N:=hmn _ ((hmk _).2 rfl)
 have hg':base≤(ρ 0).blk:=by rw [hw.ini 0 hn0]; exact hg
 obtain ⟨hws,_⟩:=ws_ofP hw l0 h0 hd hg'
 obtain ⟨_,o2,_⟩:=hw.ho 0 _ _ _ l0 h0
 have key:=put base (ρ 0).blk (vS.den ρ) X now c most i is x w hws (Nat.le_trans hb hw.up.size) hi his hn
 have hargs:(List.map (SV.den ρ) [.c (.p 0 0),.g (itS x)]).toArray=#[.pointer (some ⟨(ρ 0).blk,0,none⟩),.agg (itA x)]:=by
  simp [SV.den,SC.den,zG5,o2]
  rfl
 rw [hargs]
 refine key.mono ?_
 rintro e w' ⟨r,cap,rfl,hW,hU,hr⟩
 obtain ⟨ρ',h1,h2,h3⟩:=moved_ok hw l0 lN h0 hd hg' hn1 hm (zC5 X i is x hi his) hW hU hr
 have hsame:(fun q=>pr q∨mk q)=fun q=>pr q∨q=N:=funext fun q=>propext (or_congr_right (hmk q))
 rw [hsame]
 have hlt:i < (zJ4 X i is x).1.items.length:=(List.getElem?_eq_some_iff.1 (zC5 X i is x hi his)).1
 refine ⟨ρ',h1,?_,.inr rfl,h3,?_⟩
 ·simp only [SV.den,SC.den,zG5]
  rw [h2]
  simp only [zB2,List.length_take]
  rw [Nat.min_eq_left (by omega),Nat.add_zero]
 ·intro q hq
  rw [(hmk q).1 hq,hm.2.1]
  exact fun h=>nomatch h
theorem moved_row {z z0 e1 zN:EN} {n:Nat} {more:List EN}:Moved (z :: e1 :: more).length (z :: e1 :: more) (zF (z0 :: zA4 e1 :: more) zN) (.rw 1 n) z0 zN:=by
 refine ⟨rfl,?_,?_⟩
 ·rw [zA5,zE0]; simp
 ·intro q hq hN
  by_cases h1:q=1
  ·subst h1
   exact .inr ⟨⟨n,rfl⟩,e1,rfl,rfl⟩
  refine .inl ⟨fun _ h=>h1 (by injection h with h; exact h.symm),?_⟩
  obtain ⟨q,rfl⟩:∃ j,q=j+2:=⟨q - 2,by omega⟩
  rw [zA5,zA5,zE0]
  simp only [List.cons_append,List.getElem?_cons_succ]
  rcases Nat.lt_or_ge q more.length with h | h
  ·rw [List.getElem?_append_left h]
  ·have:q ≠ more.length:=fun e=>hN (by simp [e])
   rw [List.getElem?_eq_none (by simp; omega),List.getElem?_eq_none h]
theorem moved_row' {z z0 e1 zN:EN} {n:Nat} {more:List EN} {N:Nat} (h:zD more N=some zN):Moved (N+2) (z :: e1 :: more) (z0 :: zA4 e1 :: more) (.rw 1 n) z0 zN:=by
 refine ⟨rfl,h,?_⟩
 intro q hq hN
 by_cases h1:q=1
 ·subst h1
  exact .inr ⟨⟨n,rfl⟩,e1,rfl,rfl⟩
 obtain ⟨q,rfl⟩:∃ j,q=j+2:=⟨q - 2,by omega⟩
 exact .inl ⟨fun _ h=>h1 (by injection h with h; exact h.symm),rfl⟩
theorem mkC_one {nE:Nat} {j q:Nat}:mkC nE [.h j] j q ↔ q=nE:=by
 unfold mkC
 constructor
 ·rintro ⟨h1,h2⟩
  have:=(List.getElem?_eq_some_iff.1 h2).1
  simp at this
  omega
 ·rintro rfl
  exact ⟨Nat.le_refl _,by rw [Nat.sub_self]; rfl⟩
end Go.Proofs.YtfpeholdlkfmoaaGreatDoor
/- What Apply does to a state's items ahead of its command: they are copied, those that are gone struck, the key's place is found. -/
namespace Go.Proofs.YtfpeholdlkfmoaaGreatDoor
set_option linter.unusedSimpArgs false
set_option linter.unusedVariables false
open Go.RowKit
set_option maxRecDepth 100000
theorem clone_nil (w:World):Calls Tryz.prog 31 #[.slice none 0 0] w fun e w'=>e=.returned (.slice none 0 0)∧w=w':=by
 have hq:∀ w,(binOp .eql 22 (.slice none 0 0) (.slice none 0 0)).run Tryz.prog w=.ok (.bool true) w:=fun w=>Lib.run_eql_slice_nil w _ _ none 0 0 0 0 Tryz.underlying22
 go_enter Tryz.func31,Tryz.ntmps31
 go_wp2_with fail
 go_ret
 exact ⟨rfl,rfl⟩
set_option maxHeartbeats 1000000 in
theorem clone_some (a:Addr) (n c:Nat) (xs:List It) (hn:xs.length=n) (hle:n≤1000000000) (w:World) (hsrc:∀ j u,(zD4 xs)[j]?=some u→w.cell? (a.add j)=some u) :
  Calls Tryz.prog 31 #[.slice (some a) n c] w fun e w'=>∃ v',e=.returned v'∧OwnI w.heap.size w' v' xs∧Below w.heap.size w w':=by
 obtain ⟨i0,hi0,hz0,hz1,hz2⟩:=info_parts zU0
 have hcl:(zD4 xs).length=n * 8:=by rw [zB2,hn]
 have hone:=zV0 xs
 have key:∀ v' w',w'.ownsRow w.heap.size 33 8 v' (0+n) ([]++zD4 xs)→OwnI w.heap.size w' v' xs:=fun v' w' h=>by
  rw [List.nil_append,Nat.zero_add,← hn] at h
  exact OwnI.of_row h
 obtain ⟨C,hC⟩:∃ C,C=zD4 xs:=⟨_,rfl⟩
 rw [← hC] at hcl hone hsrc key
 have hown:(w.alloc (.cells #[] 33)).ownsRow w.heap.size 33 8 (.slice (some ⟨w.heap.size,0,none⟩) 0 0) 0 []:=by
  refine ⟨rfl,.inr ⟨w.heap.size,0,#[],rfl,Nat.le_refl _,heap_alloc_new w _,Nat.le_refl _,by unfold maxLen; omega,rfl,rfl⟩⟩
 have hnews:∀ j u,C[j]?=some u→(w.alloc (.cells #[] 33)).cell? (a.add j)=some u:=fun j u hj=>Lib.cell?_alloc_some _ (hsrc j u hj)
 have HCL:=Lib.hid hcl; have HONE:=Lib.hid hone; have HKEY:=Lib.hid key; have HOWN:=Lib.hid hown; have HNEWS:=Lib.hid hnews
 clear hcl hone key hown hnews hsrc hC hn
 have hq:∀ w,(binOp .eql 22 (.slice (some a) n c) (.slice none 0 0)).run Tryz.prog w=.ok (.bool false) w:=fun w=>Lib.run_eql_slice_nil w _ _ (some a) n c 0 0 Tryz.underlying22
 go_enter Tryz.func31,Tryz.ntmps31
 go_wp2_with (at_builtin; refine wpList_append_own_at _ rfl _ _ 22 rfl w.heap.size 33 i0 _ 8 72 Tryz.underlying22 hi0 hz0 hz1 hz2 rfl (by decide) _ 0 [] rfl HOWN.out a n c C rfl HCL.out HNEWS.out HONE.out (by unfold maxLen; omega) (by omega) (by simp) ?_; intro v' w1 hown' hgrow _ hat)
 go_ret
 refine ⟨v',rfl,HKEY.out _ _ hown',?_⟩
 have hU:Upd Non w w1:=((Upd.refl Non w).alloc _).trans (zN5 hgrow) (fun i hi h=>by have:w.heap.size=i:=Option.some.inj h; omega)
 exact hU.to_below
theorem clone_op (v:Value) (xs:List It) (w:World) (ho:OwnI 0 w v xs) (hn:xs.length≤1000000000) :
  Calls Tryz.prog 31 #[v] w fun e w'=>∃ v',e=.returned v'∧OwnI w.heap.size w' v' xs∧Below w.heap.size w w':=by
 rcases ho with ⟨p,rfl,rfl⟩ | ⟨g,cap,R,rfl,_,_,hI⟩
 ·cases p with
  | none =>
   refine (clone_nil w).mono ?_
   rintro e w' ⟨rfl,rfl⟩
   exact ⟨_,rfl,.inl ⟨_,rfl,rfl⟩,Below.refl _ _⟩
  | some a=>exact clone_some a 0 0 [] rfl (by omega) w (fun j u h=>by simp [zD4] at h)
 ·refine clone_some ⟨g,0,none⟩ _ cap xs rfl hn w (fun j u h=>?_)
  rw [Addr.add_lit,Nat.zero_add,hI.cell,List.getElem?_append_left (List.getElem?_eq_some_iff.1 h).1]
  exact h
theorem zZ1 (p:Option Addr) (b:Nat) (w:World) :
  Calls Tryz.prog 30 #[.slice p 0 0,.func (.func 32) #[] #[.pointer (some ⟨b,0,none⟩)]] w fun e w'=>e=.returned (.slice p 0 0)∧w'=w:=by
 have h1:Calls Tryz.prog 53 #[.slice p 0 0,.func (.func 32) #[] #[.pointer (some ⟨b,0,none⟩)]] w fun e w'=>e=.returned (.int .i64 (-1))∧w'=w:=by
  go_enter Tryz.func53,Tryz.ntmps53
  go_wp2_with fail
  go_loopw [8] (fun i wr=>i=.int .i64 0∧wr=w) (fun _ _=>0)
  case atStart=>exact ⟨rfl,rfl⟩
  case round =>
   obtain ⟨rfl,rfl⟩:=hrel
   go_wp2_with fail
   go_ret
   exact ⟨rfl,rfl⟩
 have H1:=Lib.hid h1; clear h1
 go_enter Tryz.func30,Tryz.ntmps30
 go_wp2_with fail
 refine H1.out.mono ?_
 rintro e w' ⟨rfl,rfl⟩
 go_wp2_with fail
 go_ret
 exact ⟨rfl,rfl⟩
theorem gone_op (base b:Nat) (now:Int) (v:Value) (xs:List It) (w:World) (ho:OwnI base w v xs) (hc:w.cell? ⟨b,0,none⟩=some (.int .i64 now)) (hb:oB v ≠ some b) (hn:xs.length≤1000000000) :
  Calls Tryz.prog 30 #[v,.func (.func 32) #[] #[.pointer (some ⟨b,0,none⟩)]] w fun e w' =>
   ∃ v',e=.returned v'∧OwnI base w' v' (xs.filter fun x=>!zE2 now x)∧oB v'=oB v∧Upd (fun k=>oB v=some k) w w':=by
 rcases ho with ⟨p,rfl,rfl⟩ | ⟨g,cap,R,rfl,hbr,hcp,hI⟩
 ·refine (zZ1 p b w).mono ?_
  rintro e w' ⟨rfl,rfl⟩
  exact ⟨_,rfl,.inl ⟨_,rfl,rfl⟩,rfl,Upd.refl _ _⟩
 ·refine (deleteGone b g cap now xs R w hI hc (fun e=>hb (by rw [e]; exact zO1 hcp)) hn).mono ?_
  rintro e w' ⟨rfl,⟨R',hI'⟩,hU⟩
  refine ⟨_,rfl,.inr ⟨g,cap,R',rfl,hbr,hcp,hI'⟩,by rw [zO1 hcp,zO1 hcp],hU.mono fun k _ hk=>?_⟩
  rw [show k=g from hk]; exact zO1 hcp
theorem search_off (p:Option Addr) (k:List UInt8) (w:World) :
  Calls Tryz.prog 54 #[.slice p 0 0,.string ⟨k.toArray⟩,.func (.func 55) #[] #[]] w fun e w' =>
   e=.returned (.tuple #[.int .i64 0,.bool false])∧w'=w:=by
 go_enter Tryz.func54,Tryz.ntmps54
 go_wp2_with fail
 go_loopw [9,10] (fun i j wr=>i=.int .i64 0∧j=.int .i64 0∧wr=w) (fun _ _ _=>0)
 case atStart=>exact ⟨rfl,rfl,rfl⟩
 case round =>
  obtain ⟨rfl,rfl,rfl⟩:=hrel
  go_wp2_with fail
  go_ret2
  exact ⟨rfl,rfl⟩
theorem find_op (base:Nat) (v:Value) (xs:List It) (k:List UInt8) (w:World) (ho:OwnI base w v xs) (hs:Sorted xs) (hn:xs.length≤1000000000) :
  Calls Tryz.prog 33 #[v,.string ⟨k.toArray⟩] w fun e w'=>e=.returned (.tuple #[.int .i64 (atF xs k),.bool (isF xs k)])∧Below w.heap.size w w':=by
 have key:Calls Tryz.prog 54 #[v,.string ⟨k.toArray⟩,.func (.func 55) #[] #[]] w fun e w' =>
   e=.returned (.tuple #[.int .i64 (atF xs k),.bool (isF xs k)])∧Below w.heap.size w w':=by
  rcases ho with ⟨p,rfl,rfl⟩ | ⟨g,cap,R,rfl,hbr,hcp,hI⟩
  ·refine (search_off p k w).mono ?_
   rintro e w' ⟨rfl,rfl⟩
   exact ⟨rfl,Below.refl _ _⟩
  ·exact search g cap k xs R hs w hI hn
 have HK:=Lib.hid key
 clear key ho hs hn
 obtain ⟨i,hi⟩:∃ i:Nat,i=atF xs k:=⟨_,rfl⟩
 obtain ⟨t,ht⟩:∃ t,t=isF xs k:=⟨_,rfl⟩
 rw [← hi,← ht] at HK ⊢
 clear hi ht
 go_enter Tryz.func33,Tryz.ntmps33
 go_wp2_with fail
 refine HK.out.mono ?_
 rintro e w' ⟨rfl,hb⟩
 go_wp2_with fail
 go_ret2
 exact ⟨rfl,hb⟩
end Go.Proofs.YtfpeholdlkfmoaaGreatDoor
/- get, whole, by the symbolic walk. -/
namespace Go.Proofs.YtfpeholdlkfmoaaGreatDoor
set_option linter.unusedSimpArgs false
set_option linter.unusedVariables false
set_option maxHeartbeats 8000000
open Go.RowKit
structure CG (C:Cx) (base:Nat):Prop where
 P:C.P=Tryz.prog
 hb:base≤C.w0.heap.size
 n0:0 < C.n0
 n1:C.n0≤2
 g:base≤(C.ρ0 0).blk
theorem zN1 {base g:Nat} {v:Value} {X:St} {now:Int} {c:Cd} {most:Int} {i:Nat} {is:Bool} {w:World} {f:FuncId} {fn:Func} {cd:Code} {R:Ending→World→Prop} {nt:Nat} (hf:Tryz.prog.funcs[f]?=some fn) (hcd:fn.body=some cd) (kp:List Nat) (hnt:fn.ntmps=nt) (h1:1≤nt)
  (h:WS base w g v X now c most i is) (hbase:base≤w.heap.size) (his:is=true→i < X.items.length)
  (k:∀ vS tl,Sh base X i is vS tl→∀ ρ:Nat→RE,ρ 0=⟨g,[],[],0,none⟩→∀ n,0 < n→n≤1+tl.length→∀ C,C=zL Tryz.prog fn R (S0 g v) w ρ n kp→CG C base→C.P=Tryz.prog→C.kp=kp→Run C [.code cd] nt (zK 0 [.c (.p 0 0)]) (woE vS X now c most i is :: tl)) :
  Calls Tryz.prog f #[.pointer (some ⟨g,0,none⟩)] w R:=by
 obtain ⟨vS,tl,ρ,hat,hρ,hv,hsh⟩:=ws_at h his
 have key:=zB8 (R:=R) hf hcd kp [.c (.p 0 0)] hnt hat (by simp [SV.wf,SC.wf]) (by simpa using h1) ?_
 ·simpa [SV.den,SC.den,zG5,hρ] using key
 intro C hC hP hk
 refine k vS tl hsh ρ hρ _ (by simp) (by simp; omega) C hC ⟨hP,?_,?_,?_,?_⟩ hP hk
 ·rw [hC]; exact hbase
 ·rw [hC]; show 0 < (woE vS X now c most i is :: tl).length; simp
 ·rw [hC]; show (woE vS X now c most i is :: tl).length≤2
  rcases hsh with ⟨_,⟨_,rfl⟩ | ⟨_,_,_,rfl⟩⟩ <;> simp
 ·rw [hC]; show base≤(ρ 0).blk; rw [hρ]; exact h.low
set_option maxRecDepth 100000
theorem get_no (base g:Nat) (v:Value) (X:St) (now:Int) (c:Cd) (most:Int) (i:Nat) (w:World) (h:WS base w g v X now c most i false) (hbase:base≤w.heap.size) (hi:i≤X.items.length) (hl:X.items.length≤100000000)
  (hn0:1≤now) (hn1:now≤1099511627776) :
  Calls Tryz.prog 34 #[.pointer (some ⟨g,0,none⟩)] w (OpR base g v (getF X now c i false).1 now c most i false (getF X now c i false).2 w):=by
 refine zN1 Tryz.func34 rfl kp34 Tryz.ntmps34 (by decide) h hbase (by simp) ?_
 intro vS tl hsh ρ hρ n hn hn' C hC hG hP hk
 have hctr:=zL7 hP
 obtain ⟨Y,hY⟩:∃ Y,Y=zJ4 X i false ⟨c.key,0,[],zF3 now c.vive,0,0,false,true⟩:=⟨_,rfl⟩
 have hYi:Y.1.items[i]?=some Y.2:=by rw [hY]; exact zC5 X i false _ hi (by simp)
 have hf0:c.viv=false→getF X now c i false=(X,zA7 5):=fun hv=>by simp [getF,hv]
 have hf1:c.viv=true→getF X now c i false=(Y.1,⟨1,Y.2,0,true,false,false⟩):=fun hv=>by simp [getF,hv,hY]
 rcases hsh with ⟨rfl,⟨_,rfl⟩ | ⟨h1,_⟩⟩
 ·(refine zH1 hctr (rs:=res34) 300 _ _ _ ?_; simp (maxSteps:=1000000) only [VC,qE,qF,qG,qH,qI,qJ,qK,qO,qP,qQ,qT,qV,q0t,qu,qv,ev,qw,qy,qz,zA,zB,zC,zD,zE,zF,zG,zI,zJ,TE.sv,zK,zM,↓reduceIte,reduceCtorEq,Nat.reduceEqDiff,Nat.reduceAdd,Nat.reduceLT,zP,zQ,zR,zS,zW,zb,zc,zt,hP,hk,res34,kp34,woE,woS,zG3,mC1,mC0,zB5,zA7,It.zero,anS])
  refine ⟨fun hv=>?_,fun hv=>?_⟩
  ·have hv':c.viv=false:=by simpa using hv
   rw [hf0 hv'] at hC
   exact zC4 hC hres34 hn hρ h.low (vS:=.rw 1 X.items.length) rfl (.inr ⟨1,rfl,by decide,.inl rfl⟩) rfl
  ·have hv':c.viv=true:=by simpa using hv
   rw [hf1 hv'] at hC
   (refine zA1 hctr (by rw [hP]; rfl) rs34_4 [⟨.c (.p 3 0), [woE (.rw 3 Y.1.items.length) Y.1 now c most i false, zA4 (zG3 base X.items), ⟨(35, 0, whole), [.i .i64 0, .s [], .i .u32 0, .s [], .i .i64 0, .i .u64 0, .i .i64 0, .b false, .b false, .i .u64 0, .b false, .b false, .b false], true⟩, zF1 base Y.1.items i Y.2]⟩] (ensure_type_of% (Cmp.of (by simp (maxSteps := 1000000) only [qA, qK, qO, qP, qQ, qV, qf, qg, q0t, qu, qv, ev, qw, qy, qz, zA, zB, zC, zD, zE, zF, zG, zM, ↓reduceIte, reduceCtorEq, Nat.reduceEqDiff, Nat.reduceAdd, zP, zT, zk, zl, zt, zA4, cD, cO, jC, jD, jH, jI, jK, jL, jM, jN, hP, woE, woS, zG3, zF1, itS, zA4, mC1, mC0, zA3, hn0, hn1]; rfl)) "" Cmp.mk) (by kernel_rfl) (by kernel_rfl) (by first | exact zA2 _ | kernel_rfl) (by kernel_rfl) (by rfl) (by rfl) (by first | exact zA0 _ | rfl) (by rfl) ?_ ?_; rotate_left; refine zH1 hctr (rs := res34) 300 _ _ _ ?_; simp (maxSteps := 1000000) only [VC, qE, qF, qG, qP, qy, zA, zB, zD, zG, zI, zJ, TE.sv, zM, ↓reduceIte, reduceCtorEq, Nat.reduceEqDiff, Nat.reduceAdd, zP, zQ, zt, jN, jO, hP, hk, res34, kp34]; rotate_left; simp (maxSteps := 1000000) only [qK, qO, qP, qQ, qV, qf, qg, q0t, qu, qv, ev, qw, qy, qz, zA, zB, zC, zD, zE, zG, zM, ↓reduceIte, reduceCtorEq, Nat.reduceEqDiff, Nat.reduceAdd, Nat.reduceLT, Nat.reduceSub, zP, zR, zS, zT, zk, zl, zn, zo, zt, jD, jH, jI, jN, jP, jQ, jR, jS, jT, jU, jV, jW, jX, jY, hP, mC1, mC0, zA3, hn0, hn1])
   ·refine put_h _ hY hP (now:=now) (c:=c) (most:=most) (vS:=.rw 1 X.items.length) ?_ (.inr ⟨1,rfl,by decide,.inl ?_⟩) hG.hb hG.n0 ?_ hG.g hi ?_ hl ?_ ?_ ?_
    ·rfl
    ·rfl
    ·have:=hG.n1; omega
    ·exact fun h=>nomatch h
    ·decide
    ·exact fun q=>mkC_one
    ·exact moved_row' rfl
   ·exact zC4 hC hres34 hn hρ h.low (vS:=.rw 3 Y.1.items.length) rfl (.inr ⟨3,rfl,by decide,.inr ⟨i,Y.2,hYi,rfl⟩⟩) rfl
 ·cases h1
theorem zE1 {C:Cx} {base nt:Nat} {sl:List (Nat × SV)} {k:List KI} {dst:Option Nat} {args:Array Operand} {tys:Array TypeId} {ty:TypeId} {pos:String} {af:Array Edge} {all r:List Oper} {Y:St × It} {X:St} {now:Int} {c:Cd} {most:Int} {i:Nat} {is:Bool} {z e1:EN} {more:List EN} (x:It)
  (hY:Y=zJ4 X i is x) (hG:CG C base) (h0:z=woE (.rw 1 X.items.length) X now c most i is) (h1:e1=zG3 base X.items∨∃ j y,X.items[j]?=some y∧e1=zF1 base X.items j y)
  (hi:i≤X.items.length) (his:is=true→i < X.items.length) (hn:X.items.length≤100000000)
  (hxs:qw sl args.toList=some [.c (.p 0 0),.g (itS x)]) (hd:∀ d,dst=some d→d < nt)
  (hK:Run C (.ops all r :: k) nt (jN dst (.c (.p (zG (z :: e1 :: more)) 0)) sl) (zF (woE (.rw (zG (z :: e1 :: more)) Y.1.items.length) Y.1 now c most i is :: zA4 e1 :: more) (zF1 base Y.1.items i Y.2))) :
  Run C (.ops all (⟨dst,.call ⟨.value (.func 57),args,tys⟩,ty,pos,af,none⟩ :: r) :: k) nt sl (z :: e1 :: more):=by
 rw [zB9] at hK
 refine zE5 hxs _ _ ?_ ?_ hd hK
 ·refine put_h x hY hG.P (now:=now) (c:=c) (most:=most) (vS:=.rw 1 X.items.length) ?_ (.inr ⟨1,rfl,by decide,?_⟩) hG.hb hG.n0 ?_ hG.g hi his hn ?_ ?_ ?_
  ·rw [h0]; rfl
  ·rcases h1 with h1 | ⟨j,y,hy,h1⟩
   ·exact .inl (by rw [h1]; rfl)
   ·exact .inr ⟨j,y,hy,by rw [h1]; rfl⟩
  ·have:=hG.n1; simp; omega
  ·rw [zB9]; simp
  ·intro q
   simp only [zB9,zE0,List.length_append,List.length_cons,List.length_nil]
   omega
  ·exact moved_row
 ·simp only [zB9,zE0,List.length_append,List.length_cons,List.length_nil]
  omega
end Go.Proofs.YtfpeholdlkfmoaaGreatDoor
/- slices.Delete of one item, as a call in a walk; remove. -/
namespace Go.Proofs.YtfpeholdlkfmoaaGreatDoor
set_option linter.unusedSimpArgs false
set_option linter.unusedVariables false
open Go.RowKit
def Cut (N:Nat) (en en':List EN) (d:Nat) (zN:EN):Prop:=
 zD en' N=some zN∧∀ q,q ≠ N→(q ≠ d∧zD en' q=zD en q)∨(q=d∧∃ e,zD en q=some e∧zD en' q=some (zA4 e))
theorem delete_h {C:Cx} {nE N:Nat} {mk:Nat→Prop} {en en':List EN} {base d:Nat} {xs:List It} {i p:Nat} {e1:EN}
  (hP:C.P=Tryz.prog) (h1:zD en d=some e1) (he:e1=zG3 base xs∨∃ j y,xs[j]?=some y∧e1=zF1 base xs j y) (hn1:C.n0≤N)
  (hp:xs.length=p+1) (hi:i≤p) (hn:xs.length≤1000000000) (hE:d < nE) (hmk:∀ q,mk q ↔ q=N) (hm:Cut N en en' d (zG3 base (xs.eraseIdx i))) :
  zP3 C nE mk en en' 43 [.c (.rw d (p+1)),.c (.i .i64 i),.c (.i .i64 ((i:Int)+1))] (.c (.rw N p)):=by
 refine ⟨fun args w=>by rw [hP]; exact Tryz.call43 args w,?_⟩
 intro ρ pr w hpr hmn hw hex hwf
 rw [hP]
 have l1:pr d:=hpr d hE
 have lN:¬ pr N:=hmn _ ((hmk _).2 rfl)
 have hnl:(ρ d).nl=none:=by
  rcases he with he | ⟨j,x,hx,he⟩
  ·rw [he] at h1
   rcases (hw.ho d _ _ _ l1 h1).2 with ⟨hn,_⟩ | ⟨_,h0,_⟩
   ·exact hn
   ·rw [h0] at hp; simp at hp
  ·rw [he] at h1
   exact Decidable.byContradiction fun hd=>by have:=(hw.hp d _ _ _ l1 h1).non hd; cases this
 have hlive:zE7 (ρ d) (zD en d)=false:=by
  rcases he with he | ⟨_,_,_,he⟩ <;> (rw [he] at h1; exact (zB4 h1).2 ⟨(show (33:Nat) ≠ zE8 by decide),hnl⟩)
 have hI:∃ R,Items w (ρ d).blk (ρ d).cap xs R∧base≤(ρ d).blk∧0 < (ρ d).cap:=by
  rcases he with he | ⟨j,x,hx,he⟩
  ·rw [he] at h1
   have e1:=(hw.hp d _ _ _ l1 h1).heap ⟨(show (33:Nat) ≠ zE8 by decide),hnl⟩
   rcases (hw.ho d _ _ _ l1 h1).2 with ⟨_,q1,qc,q2,q3,R,q4,q5⟩ | ⟨hn,_⟩
   ·refine ⟨R,⟨?_,q5,q2⟩,q1,qc⟩
    rw [e1,q3,q4]; rfl
   ·exact absurd hnl hn
  ·rw [he] at h1
   have e1:=(hw.hp d _ _ _ l1 h1).heap ⟨(show (33:Nat) ≠ zE8 by decide),hnl⟩
   obtain ⟨_,q1,qc,q2,q3,R,q4,q5⟩:=hw.ho d _ _ _ l1 h1
   refine ⟨R,⟨?_,q5,q2⟩,q1,qc⟩
   rw [e1,q3,q4,← zO3 hx]
   simp only [List.append_assoc]
   rfl
 have hmu:C.S (ρ d).blk∨C.w0.heap.size≤(ρ d).blk:=by
  rcases he with he | ⟨_,_,_,he⟩ <;> (rw [he] at h1; exact hw.mu d _ _ l1 h1)
 obtain ⟨R,hI,hbr,hcp⟩:=hI
 have hargs:(List.map (SV.den ρ) [.c (.rw d (p+1)),.c (.i .i64 i),.c (.i .i64 ((i:Int)+1))]).toArray=#[.slice (some ⟨(ρ d).blk,0,none⟩) (p+1) (ρ d).cap,.int .i64 i,.int .i64 ((i:Int)+1)]:=by
  simp [SV.den,SC.den,zF2 hnl]
 rw [hargs]
 refine (delete1 (ρ d).blk (ρ d).cap i p xs R w hI hp hi hn).mono ?_
 rintro e w' ⟨rfl,⟨R',hI'⟩,hU⟩
 obtain ⟨ρ',hρ'⟩:∃ ρ':Nat→RE,ρ'=fun q=>if q=N then ⟨(ρ d).blk,[],zD4 (xs.eraseIdx i)++R',(ρ d).cap,none⟩ else ρ q:=⟨_,rfl⟩
 have hold:∀ q,pr q→ρ' q=ρ q:=by
  intro q hq
  simp only [hρ']
  exact if_neg (fun h:q=N=>lN (h ▸ hq))
 have hnew:ρ' N=⟨(ρ d).blk,[],zD4 (xs.eraseIdx i)++R',(ρ d).cap,none⟩:=by simp only [hρ',if_true]
 have hsame:(fun q=>pr q∨mk q)=fun q=>pr q∨q=N:=funext fun q=>propext (or_congr_right (hmk q))
 rw [hsame]
 obtain ⟨mN,mq⟩:=hm
 have hcase:∀ q ty cells mu,(pr q∨q=N)→zD en' q=some ⟨ty,cells,mu⟩ →
   (q=N∧(⟨ty,cells,mu⟩:EN)=zG3 base (xs.eraseIdx i))∨(pr q∧q ≠ d∧zD en q=some ⟨ty,cells,mu⟩)∨(pr q∧q=d∧∃ e,zD en q=some e∧(⟨ty,cells,mu⟩:EN)=zA4 e):=by
  intro q ty cells mu hq he
  by_cases hqN:q=N
  ·subst hqN
   exact .inl ⟨rfl,by rw [mN] at he; exact (Option.some.inj he).symm⟩
  have hq':=hq.resolve_right hqN
  rcases mq q hqN with ⟨k1,k2⟩ | ⟨k1,e,k2,k3⟩
  ·exact .inr (.inl ⟨hq',k1,k2 ▸ he⟩)
  ·exact .inr (.inr ⟨hq',k1,e,k2,by rw [k3] at he; exact (Option.some.inj he).symm⟩)
 have hoff:∀ q,pr q→q ≠ d→zE7 (ρ q) (zD en q)=false→(ρ q).blk ≠ (ρ d).blk:=fun q hq hqd hl h=>hqd (hw.inj q d hq l1 hl hlive h)
 have hl2:∀ q ty cells mu,zD en q=some ⟨ty,cells,mu⟩→ty.1 ≠ zE8∧(ρ q).nl=none→zE7 (ρ q) (zD en q)=false:=fun q ty cells mu he hl=>(zB4 he).2 hl
 refine ⟨ρ',hold,?_,.inr rfl,⟨?_,?_,?_,?_,?_,?_⟩,?_⟩
 ·simp [SV.den,SC.den,hnew,zE9]
 ·intro q ty cells mu hq he
  rcases hcase q ty cells mu hq he with ⟨rfl,h⟩ | ⟨hq',hqd,h⟩ | ⟨hq',hqd,e,h,h2⟩
  ·simp only [zG3,EN.mk.injEq] at h
   obtain ⟨rfl,rfl,rfl⟩:=h
   refine ⟨fun _=>?_,(fun y hy=>nomatch hy),fun hd=>absurd (show (33:Nat)=zE8 from hd) (by decide),fun _=>rfl⟩
   rw [hnew,hI'.heap]
   rfl
  ·have hp:=hw.hp q ty cells mu hq' h
   refine ⟨fun hl=>?_,zJ3 hp.wf (fun _ h=>Or.inl h),hp.dead,by rw [hold q hq']; exact hp.non⟩
   rw [hold q hq'] at hl
   rw [hold q hq',zF9 hp.wf hold,hU.block _ (hw.lt hq' (hl2 _ _ _ _ h hl)) (hoff q hq' hqd (hl2 _ _ _ _ h hl))]
   exact hp.heap hl
  ·simp only [zA4,EN.mk.injEq] at h2
   obtain ⟨rfl,rfl,rfl⟩:=h2
   exact ⟨fun hl=>absurd rfl hl.1,(fun y hy=>nomatch hy),fun _=>⟨rfl,rfl⟩,fun _=>rfl⟩
 ·intro q ty cells mu hq he
  rcases hcase q ty cells mu hq he with ⟨rfl,h⟩ | ⟨hq',hqd,h⟩ | ⟨hq',hqd,e,h,h2⟩
  ·simp only [zG3,EN.mk.injEq] at h
   obtain ⟨rfl,rfl,rfl⟩:=h
   rw [hnew]
   exact ⟨rfl,.inl ⟨rfl,hbr,hcp,hI'.big,rfl,R',rfl,hI'.fit⟩⟩
  ·rw [hold q hq']
   exact hw.ho q _ _ _ hq' h
  ·cases e
   simp only [zA4,EN.mk.injEq] at h2
   obtain ⟨rfl,rfl,rfl⟩:=h2
   rw [hold q hq']
   have h3:=hw.ho q _ _ _ hq' h
   exact h3
 ·have hlv:∀ q,pr q→zE7 (ρ q) (zD en' q)=false→q ≠ d∧zD en' q=zD en q:=by
   intro q hq hl
   rcases mq q (fun h=>lN (h ▸ hq)) with h | ⟨_,e,_,h3⟩
   ·exact h
   ·rw [h3] at hl; exact absurd hl (by simp [zA4,zE7])
  intro q d2 hq hd hql hdl hb
  rcases hq with hq | rfl <;> rcases hd with hd | rfl
  ·rw [hold q hq,hold d2 hd] at hb
   rw [hold q hq] at hql
   rw [hold d2 hd] at hdl
   exact hw.inj q d2 hq hd (by rw [← (hlv q hq hql).2]; exact hql) (by rw [← (hlv d2 hd hdl).2]; exact hdl) hb
  ·rw [hold q hq,hnew] at hb
   rw [hold q hq] at hql
   obtain ⟨k1,k2⟩:=hlv q hq hql
   exact absurd hb (hoff q hq k1 (by rw [← k2]; exact hql))
  ·rw [hold d2 hd,hnew] at hb
   rw [hold d2 hd] at hdl
   obtain ⟨k1,k2⟩:=hlv d2 hd hdl
   exact absurd hb.symm (hoff d2 hd k1 (by rw [← k2]; exact hdl))
  ·rfl
 ·refine hw.up.trans hU fun k hk hT=>?_
  rw [show k=(ρ d).blk from hT] at hk ⊢
  exact hmu.resolve_right (by omega)
 ·intro q ty cells hq he
  rcases hcase q ty cells true hq he with ⟨rfl,h⟩ | ⟨hq',hqd,h⟩ | ⟨hq',hqd,e,h,h2⟩
  ·rw [hnew]; exact hmu
  ·rw [hold q hq']; exact hw.mu q _ _ hq' h
  ·simp only [zA4,EN.mk.injEq] at h2
   exact absurd h2.2.2 (by decide)
 ·intro q hq
  simp only [hρ']
  rw [if_neg (by omega)]
  exact hw.ini q hq
 ·intro q hq
  rw [(hmk q).1 hq,mN]
  exact fun h=>nomatch h
theorem zX9 {C:Cx} {nE N:Nat} {mk:Nat→Prop} {en en':List EN} {base d:Nat} {xs:List It} {i:Nat} {e1:EN}
  (hP:C.P=Tryz.prog) (h1:zD en d=some e1) (he:e1=zG3 base xs∨∃ j y,xs[j]?=some y∧e1=zF1 base xs j y) (hn1:C.n0≤N)
  (hi:i < xs.length) (hn:xs.length≤1000000000) (hE:d < nE) (hmk:∀ q,mk q ↔ q=N) (hm:Cut N en en' d (zG3 base (xs.eraseIdx i))) :
  zP3 C nE mk en en' 43 [.c (.rw d xs.length),.c (.i .i64 i),.c (.i .i64 ((i:Int)+1))] (.c (.rw N (xs.eraseIdx i).length)):=by
 obtain ⟨p,hp⟩:∃ p,xs.length=p+1:=⟨xs.length - 1,by omega⟩
 have h2:(xs.eraseIdx i).length=p:=by rw [List.length_eraseIdx,if_pos hi]; omega
 rw [hp,h2]
 exact delete_h hP h1 he hn1 hp (by omega) hn hE hmk hm
theorem cut_at {z e1 zN:EN} {more:List EN} {N:Nat} (h:zD more N=some zN):Cut (N+2) (z :: e1 :: more) (z :: zA4 e1 :: more) 1 zN:=by
 refine ⟨h,?_⟩
 intro q hN
 by_cases h1:q=1
 ·subst h1
  exact .inr ⟨rfl,e1,rfl,rfl⟩
 refine .inl ⟨h1,?_⟩
 match q,h1 with
 | 0,_=>rfl
 | q+2,_=>rfl
end Go.Proofs.YtfpeholdlkfmoaaGreatDoor
/- Rows of items as entries: one is made, one takes another one's place; the model's operations as calls in a walk. -/
namespace Go.Proofs.YtfpeholdlkfmoaaGreatDoor
set_option linter.unusedSimpArgs false
set_option linter.unusedVariables false
open Go.RowKit
theorem row_re {base:Nat} {w:World} {v:Value} {xs:List It} (ho:OwnI base w v xs) (x0:Nat) (hx0:base≤x0) :
  ∃ r:RE,zE9 r xs.length=v∧rowI base xs r∧(r.nl=none→oB v=some r.blk∧w.heap[r.blk]?=some (.cells (r.pre++r.post).toArray 33 (0,0)))∧(r.nl ≠ none→r.blk=x0)∧r.pre=[]:=by
 rcases ho with ⟨p,rfl,rfl⟩ | ⟨g,cap,R,rfl,hb,hc,hI⟩
 ·exact ⟨⟨x0,[],[],0,some p⟩,rfl,.inr ⟨by simp,rfl,rfl⟩,(fun h=>nomatch h),fun _=>rfl,rfl⟩
 ·exact ⟨⟨g,[],zD4 xs++R,cap,none⟩,rfl,.inl ⟨rfl,hb,hc,hI.big,rfl,R,rfl,hI.fit⟩,fun _=>⟨zO1 hc,hI.heap⟩,fun h=>absurd rfl h,rfl⟩
theorem zW6 {C:Cx} {ρ:Nat→RE} {pr:Nat→Prop} {en:List EN} {w:World} {base:Nat} {xs:List It} {d:Nat} {mu:Bool} (hw:Hw C ρ pr en w) (ld:pr d) (hd:zD en d=some ⟨(33,0,rowI base xs),[],mu⟩):OwnI base w (zE9 (ρ d) xs.length) xs:=by
 obtain ⟨h0,h1⟩:=hw.ho d _ _ _ ld hd
 cases hnl:(ρ d).nl with
 | none =>
  rcases h1 with ⟨_,q1,qc,q2,q3,R,q4,q5⟩ | ⟨hn,_⟩
  ·refine .inr ⟨_,_,R,zF2 hnl _,q1,qc,?_,q5,q2⟩
   rw [(hw.hp d _ _ _ ld hd).heap ⟨(show (33:Nat) ≠ zE8 by decide),hnl⟩,q3,q4]
   rfl
  ·exact absurd hnl hn
 | some p =>
  rcases h1 with ⟨hn,_⟩ | ⟨_,hx,_⟩
  ·rw [hnl] at hn; cases hn
  ·exact .inl ⟨p,by rw [zG4 hnl,hx]; rfl,hx⟩
theorem he_row {C:Cx} {ρ:Nat→RE} {pr:Nat→Prop} {w:World} {base:Nat} {xs:List It} {N:Nat} {v:Value} {r:RE} (hrn:r.nl=none→oB v=some r.blk∧w.heap[r.blk]?=some (.cells (r.pre++r.post).toArray 33 (0,0))) :
  HE (zL6 ρ N r) (fun q=>pr q∨q=N) w N (zG3 base xs).ty (zG3 base xs).cells (zG3 base xs).mu:=by
 have hn:zL6 ρ N r N=r:=if_pos rfl
 refine ⟨fun hl=>?_,(fun y hy=>nomatch hy),fun hd=>absurd (show (33:Nat)=zE8 from hd) (by decide),fun _=>rfl⟩
 rw [hn] at hl
 rw [hn,(hrn hl.2).2]
 simp [zG3,zC1]
theorem new_row {C:Cx} {ρ:Nat→RE} {pr:Nat→Prop} {en en':List EN} {w w':World} {base:Nat} {xs:List It} {v':Value} {N:Nat} (hw:Hw C ρ pr en w) (lN:¬ pr N) (hn1:C.n0≤N) (hN:zD en' N=some (zG3 base xs)) (hq:∀ q,pr q→zD en' q=zD en q)
  (hb:Below w.heap.size w w') (ho:OwnI w.heap.size w' v' xs) (hbase:base≤w.heap.size) :
  ∃ ρ',(∀ q,pr q→ρ' q=ρ q)∧zE9 (ρ' N) xs.length=v'∧Hw C ρ' (fun q=>pr q∨q=N) en' w':=by
 obtain ⟨r,h1,h2,h3,h4,h5⟩:=row_re ho w.heap.size (Nat.le_refl _)
 have hlow:w.heap.size≤r.blk:=by
  cases hr:r.nl with
  | none=>exact (ho.lt _ (h3 hr).1).1
  | some p=>rw [h4 (by rw [hr]; simp)]; exact Nat.le_refl _
 have hrow:rowI base xs r:=h2.imp (fun h=>⟨h.1,Nat.le_trans hbase h.2.1,h.2.2⟩) id
 obtain ⟨k1,k2⟩:=Hw.rebuild (e:=zG3 base xs) (T:=Non) r hw lN hn1 (Upd.of_below hb) (fun k _ h=>h.elim) (fun q hq'=>.inl ⟨hq q hq',fun _ h=>h⟩) hN (he_row (C:=C) h3) ⟨by rw [h5]; rfl,hrow⟩
  (fun _ q hq' hl=>by rw [hq q hq'] at hl; have:=hw.lt hq' hl; omega) (fun _=>.inr (Nat.le_trans hw.up.size hlow))
 exact ⟨_,k1,by rw [show zL6 ρ N r N=r from if_pos rfl]; exact h1,k2⟩
theorem clone_h {C:Cx} {nE N d:Nat} {mk:Nat→Prop} {en en':List EN} {b base:Nat} {xs:List It} {mu:Bool} (hP:C.P=Tryz.prog) (hd:zD en d=some ⟨(33,0,rowI b xs),[],mu⟩) (hbase:base≤C.w0.heap.size) (hn1:C.n0≤N) (hn:xs.length≤1000000000) (hE:d < nE) (hmk:∀ q,mk q ↔ q=N)
  (hN:zD en' N=some (zG3 base xs)) (hq:∀ q,q ≠ N→zD en' q=zD en q) :
  zP3 C nE mk en en' 31 [.c (.rw d xs.length)] (.c (.rw N xs.length)):=by
 refine ⟨fun args w=>by rw [hP]; exact Tryz.call31 args w,?_⟩
 intro ρ pr w hpr hmn hw hex hwf
 rw [hP]
 have lN:¬ pr N:=hmn _ ((hmk _).2 rfl)
 have ho:=zW6 hw (hpr d hE) hd
 have ho0:OwnI 0 w (zE9 (ρ d) xs.length) xs:=ho.imp id (fun ⟨g,c,R,h1,_,h3⟩=>⟨g,c,R,h1,Nat.zero_le _,h3⟩)
 refine (clone_op _ xs w ho0 hn).mono ?_
 rintro e w' ⟨v',rfl,ho',hb⟩
 obtain ⟨ρ',k1,k2,k3⟩:=new_row hw lN hn1 hN (fun q hq'=>hq q (fun h=>lN (h ▸ hq'))) hb ho' (Nat.le_trans hbase hw.up.size)
 have hsame:(fun q=>pr q∨mk q)=fun q=>pr q∨q=N:=funext fun q=>propext (or_congr_right (hmk q))
 rw [hsame]
 refine ⟨ρ',k1,by rw [← k2]; rfl,.inr rfl,k3,fun q hq'=>?_⟩
 rw [(hmk q).1 hq',hN]; exact fun h=>nomatch h
theorem row_off {C:Cx} {ρ:Nat→RE} {pr:Nat→Prop} {en:List EN} {w:World} {base:Nat} {xs:List It} {d q n:Nat} {mu:Bool} (hw:Hw C ρ pr en w) (ld:pr d) (hd:zD en d=some ⟨(33,0,rowI base xs),[],mu⟩) (hq:pr q) (hqd:q ≠ d) (hl:zE7 (ρ q) (zD en q)=false):oB (zE9 (ρ d) n) ≠ some (ρ q).blk:=by
 intro h
 obtain ⟨hdn,hb⟩:=oB_rw h
 exact hqd (hw.inj d q ld hq ((zB4 hd).2 ⟨(show (33:Nat) ≠ zE8 by decide),hdn⟩) hl hb).symm
theorem row_mu {C:Cx} {ρ:Nat→RE} {pr:Nat→Prop} {en:List EN} {w:World} {base:Nat} {xs:List It} {d n k:Nat} (hw:Hw C ρ pr en w) (ld:pr d) (hd:zD en d=some (zG3 base xs)) (h:oB (zE9 (ρ d) n)=some k):C.S k∨C.w0.heap.size≤k:=by
 obtain ⟨_,rfl⟩:=oB_rw h
 exact hw.mu d _ _ ld hd
theorem gone_h {C:Cx} {nE N d y:Nat} {mk:Nat→Prop} {en en':List EN} {base:Nat} {xs:List It} {now:Int} {t:TypeId × Nat × (RE→Prop)} {mu:Bool} (hP:C.P=Tryz.prog) (hd:zD en d=some (zG3 base xs)) (hy:zD en y=some ⟨t,[.i .i64 now],mu⟩) (hyo:t.2.1=0) (hyd:y ≠ d) (hbase:base≤C.w0.heap.size) (hn1:C.n0≤N) (hn:xs.length≤1000000000) (hE:d < nE) (hEy:y < nE) (hmk:∀ q,mk q ↔ q=N)
  (hm:Cut N en en' d (zG3 base (xs.filter fun x=>!zE2 now x))) :
  zP3 C nE mk en en' 30 [.c (.rw d xs.length),.c (.f (.func 32) [(y,0)])] (.c (.rw N (xs.filter fun x=>!zE2 now x).length)):=by
 refine ⟨fun args w=>by rw [hP]; exact Tryz.call30 args w,?_⟩
 intro ρ pr w hpr hmn hw hex hwf
 rw [hP]
 have lN:¬ pr N:=hmn _ ((hmk _).2 rfl)
 have ld:=hpr d hE
 have ly:=hpr y hEy
 have ho:=zW6 hw ld hd
 have hylive:zE7 (ρ y) (zD en y)=false:=by
  refine (zB4 hy).2 ⟨fun h=>?_,Decidable.byContradiction fun h=>?_⟩
  ·have:=((hw.hp y _ _ _ ly hy).dead h).1; cases this
  ·have:=(hw.hp y _ _ _ ly hy).non h; cases this
 have hcell:w.cell? ⟨(ρ y).blk,0,none⟩=some (.int .i64 now):=by
  have:=hw.hp.cellAt ly hy (j:=0) (x:=.i .i64 now) rfl
  rw [(hw.ho y _ _ _ ly hy).1,hyo] at this
  exact this
 have hb0:oB (zE9 (ρ d) xs.length) ≠ some (ρ y).blk:=row_off hw ld hd ly hyd hylive
 have hargs:(List.map (SV.den ρ) [.c (.rw d xs.length),.c (.f (.func 32) [(y,0)])]).toArray=#[zE9 (ρ d) xs.length,.func (.func 32) #[] #[.pointer (some ⟨(ρ y).blk,0,none⟩)]]:=by
  simp [SV.den,SC.den,zG5,(hw.ho y _ _ _ ly hy).1,hyo]
 rw [hargs]
 refine (gone_op base (ρ y).blk now _ xs w ho hcell hb0 hn).mono ?_
 rintro e w' ⟨v',rfl,ho',hob,hU⟩
 obtain ⟨r,h1,h2,h3,h4,h5⟩:=row_re ho' w.heap.size (Nat.le_trans hbase hw.up.size)
 obtain ⟨mN,mq⟩:=hm
 obtain ⟨k1,k2⟩:=Hw.rebuild (e:=zG3 base (xs.filter fun x=>!zE2 now x)) (T:=fun k=>oB (zE9 (ρ d) xs.length)=some k) r hw lN hn1 hU
  (fun k hk h=>(row_mu hw ld hd h).resolve_right (by omega))
  (fun q hq=>by
   rcases mq q (fun h=>lN (h ▸ hq)) with ⟨k1,k2⟩ | ⟨_,e,k2,k3⟩
   ·exact .inl ⟨k2,fun hl=>row_off hw ld hd hq k1 hl⟩
   ·exact .inr (.inl ⟨e,k2,k3⟩))
  mN (he_row (C:=C) h3) ⟨by rw [h5]; rfl,h2⟩
  (fun hr q hq hl=>by
   rcases mq q (fun h=>lN (h ▸ hq)) with ⟨k1,k2⟩ | ⟨_,e,k2,k3⟩
   ·rw [k2] at hl
    intro hb
    exact row_off hw ld hd hq k1 hl (by rw [hb,← hob]; exact (h3 hr).1)
   ·rw [k3] at hl; exact absurd hl (by simp [zA4,zE7]))
  (fun _=>by
   cases hr:r.nl with
   | none=>exact row_mu hw ld hd (by rw [← hob]; exact (h3 hr).1)
   | some p=>rw [h4 (by rw [hr]; simp)]; exact .inr hw.up.size)
 have hsame:(fun q=>pr q∨mk q)=fun q=>pr q∨q=N:=funext fun q=>propext (or_congr_right (hmk q))
 rw [hsame]
 refine ⟨_,k1,?_,.inr rfl,k2,fun q hq'=>?_⟩
 ·rw [← h1]
  show _=Ending.returned (zE9 (zL6 ρ N r N) _)
  rw [show zL6 ρ N r N=r from if_pos rfl]
 ·rw [(hmk q).1 hq',mN]; exact fun h=>nomatch h
end Go.Proofs.YtfpeholdlkfmoaaGreatDoor
