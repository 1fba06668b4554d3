/- An operation of the model, as a call in a walk. -/
import Derived.Test.YtfpeholdlkfmoaaGreatDoorBS06
import Derived.Test.YtfpeholdlkfmoaaGreatDoorBS05
import Derived.Test.YtfpeholdlkfmoaaGreatDoorBS00
import Derived.Test.YtfpeholdlkfmoaaGreatDoorCSxLay
import Derived.LoopTactic
import Derived.WalkSmall
import Derived.WalkSpells
import Derived.Outline
namespace Go.Proofs.YtfpeholdlkfmoaaGreatDoor
set_option linter.unusedSimpArgs false
set_option linter.unusedVariables false
open Go.RowKit
def MovedZ (z N:Nat) (en en':List EN) (vS:SC) (z0 zN:EN):Prop:=
 zD en' z=some z0∧zD en' N=some zN ∧
 ∀ q,q ≠ z→q ≠ N→((∀ n,vS ≠ .rw q n)∧zD en' q=zD en q)∨((∃ n,vS=.rw q n)∧∃ e,zD en q=some e∧zD en' q=some (zA4 e))
def RowOf (z base:Nat) (X:St) (en:List EN) (vS:SC):Prop:=
 ((∃ p,vS=.v (.slice p 0 0))∧X.items=[])∨∃ d,vS=.rw d X.items.length∧d ≠ z∧zD en d=some (zG3 base X.items)
theorem op_h {C:Cx} {nE N z:Nat} {mk:Nat→Prop} {en en':List EN} {base:Nat} {X X':St} {vS:SC} {now:Int} {c:Cd} {most:Int} {i:Nat} {is:Bool} {an:An} {f:FuncId} (hP:C.P=Tryz.prog) (hcf:∀ args w,(callFunc f args).run Tryz.prog w=.ok (.enter f args) w)
  (hz:zD en z=some (woE vS X now c most i is)) (hd:RowOf z base X en vS) (hbase:base≤C.w0.heap.size) (hS:∀ k,C.S k→base≤k) (hn1:C.n0≤N) (hE:z < nE) (hmk:∀ q,mk q ↔ q=N)
  (hop:∀ w g v,Upd C.S C.w0 w→base≤w.heap.size→WS base w g v X now c most i is→Calls Tryz.prog f #[.pointer (some ⟨g,0,none⟩)] w (OpR base g v X' now c most i is an w))
  (hm:MovedZ z N en en' vS (woE (.rw N X'.items.length) X' now c most i is) (zG3 base X'.items)) :
  zP3 C nE mk en en' f [.c (.p z 0)] (.g (anS an)):=by
 refine ⟨fun args w=>by rw [hP]; exact hcf args w,?_⟩
 intro ρ pr w hpr hmn hw hex hwf
 rw [hP]
 have lN:¬ pr N:=hmn _ ((hmk _).2 rfl)
 have lz:=hpr z hE
 have hnl0:(ρ z).nl=none:=Decidable.byContradiction fun hd=>by have:=(hw.hp z _ _ _ lz hz).non hd; cases this
 have hzl:zE7 (ρ z) (zD en z)=false:=(zB4 hz).2 ⟨(show (66:Nat) ≠ zE8 by decide),hnl0⟩
 have e0:=(hw.hp z _ _ _ lz hz).heap ⟨(show (66:Nat) ≠ zE8 by decide),hnl0⟩
 obtain ⟨o1,o2,o3⟩:=hw.ho z _ _ _ lz hz
 have hbw:base≤w.heap.size:=Nat.le_trans hbase hw.up.size
 have hzm:=hw.mu z _ _ lz hz
 have hbg:base≤(ρ z).blk:=hzm.elim (hS _) (Nat.le_trans hbase)
 have hblk:Blk w (ρ z).blk 66 (woA (vS.den ρ) X now c most i is):=by
  unfold Blk
  rw [e0,o2,o3]
  simp only [List.nil_append,List.append_nil]
  rfl
 have how:OwnI base w (vS.den ρ) X.items:=by
  rcases hd with ⟨⟨p,rfl⟩,hx⟩ | ⟨d,rfl,hd0,hd⟩
  ·exact .inl ⟨p,rfl,hx⟩
  ·exact zW6 hw ((hw.hp z _ _ _ lz hz).wf (.rw d X.items.length) (List.mem_cons_self ..)) hd
 have hoff:∀ q,pr q→(∀ n,vS ≠ .rw q n)→zE7 (ρ q) (zD en q)=false→oB (vS.den ρ) ≠ some (ρ q).blk:=by
  intro q hq hv hl
  rcases hd with ⟨⟨p,rfl⟩,hx⟩ | ⟨d,rfl,hd0,hd⟩
  ·rw [show (SC.v (.slice p 0 0)).den ρ=.slice p 0 0 from rfl,zZ8]; exact fun h=>nomatch h
  ·have ld:pr d:=(hw.hp z _ _ _ lz hz).wf (.rw d X.items.length) (List.mem_cons_self ..)
   exact row_off hw ld hd hq (fun h=>hv _ (by rw [h])) hl
 have hown:∀ k,oB (vS.den ρ)=some k→C.S k∨C.w0.heap.size≤k:=by
  intro k hk
  rcases hd with ⟨⟨p,rfl⟩,hx⟩ | ⟨d,rfl,hd0,hd⟩
  ·rw [show (SC.v (.slice p 0 0)).den ρ=.slice p 0 0 from rfl,zZ8] at hk; cases hk
  ·have ld:pr d:=(hw.hp z _ _ _ lz hz).wf (.rw d X.items.length) (List.mem_cons_self ..)
   exact row_mu hw ld hd hk
 have hargs:(List.map (SV.den ρ) [.c (.p z 0)]).toArray=#[.pointer (some ⟨(ρ z).blk,0,none⟩)]:=by simp [SV.den,SC.den,zG5,o2]
 rw [hargs]
 refine (hop w (ρ z).blk (vS.den ρ) hw.up hbw ⟨hblk,how,hbg⟩).mono ?_
 rintro e w' ⟨rfl,v',hW,hU,hat⟩
 obtain ⟨r,h1,h2,h3,h4,h5⟩:=row_re hW.own w.heap.size hbw
 obtain ⟨m0,mN,mq⟩:=hm
 have hzN:z ≠ N:=fun h=>lN (h ▸ lz)
 have hn:zL6 ρ N r N=r:=if_pos rfl
 have hzo:zL6 ρ N r z=ρ z:=if_neg hzN
 have hblk':Blk w' (ρ z).blk _ _:=hW.blk
 unfold Blk at hblk'
 obtain ⟨k1,k2⟩:=Hw.rebuild (e:=zG3 base X'.items) (T:=S0 (ρ z).blk (vS.den ρ)) r hw lN hn1 hU
  (fun k hk h=>by
   rcases h with rfl | h
   ·exact hzm.resolve_right (by omega)
   ·exact (hown k h).resolve_right (by omega))
  (fun q hq=>by
   by_cases hqz:q=z
   ·subst hqz
    refine .inr (.inr ⟨_,_,_,_,hz,m0,(show (66:Nat) ≠ zE8 by decide),⟨fun _=>?_,wo_wf (.inr rfl) _ _ _ _ _ _,fun hd=>absurd hd (by decide),by rw [hzo]; exact fun h=>absurd hnl0 h⟩⟩)
    rw [hzo,o2,o3,List.nil_append,List.append_nil,hblk']
    have hv:v'=zE9 (zL6 ρ N r N) X'.items.length:=by rw [hn]; exact h1.symm
    rw [hv]
    rfl
   ·rcases mq q hqz (fun h=>lN (h ▸ hq)) with ⟨k1,k2⟩ | ⟨_,e,k2,k3⟩
    ·refine .inl ⟨k2,fun hl h=>?_⟩
     rcases h with h | h
     ·exact hqz (hw.inj q z hq lz hl hzl h)
     ·exact hoff q hq k1 hl h
    ·exact .inr (.inl ⟨e,k2,k3⟩))
  mN (he_row (C:=C) h3) ⟨by rw [h5]; rfl,h2⟩
  (fun hr q hq hl hb=>by
   have ho:=(h3 hr).1
   by_cases hqz:q=z
   ·subst hqz
    exact own_ne hW.blk hW.own (by decide) (by rw [ho,hb])
   ·rcases mq q hqz (fun h=>lN (h ▸ hq)) with ⟨k1,k2⟩ | ⟨_,e,k2,k3⟩
    ·rw [k2] at hl
     rcases hat _ ho with h | h
     ·exact hoff q hq k1 hl (by rw [h,hb])
     ·have:=hw.lt hq hl; omega
    ·rw [k3] at hl; exact absurd hl (by simp [zA4,zE7]))
  (fun _=>by
   cases hr:r.nl with
   | none =>
    rcases hat _ (h3 hr).1 with h | h
    ·exact hown _ h
    ·exact .inr (Nat.le_trans hw.up.size h)
   | some p=>rw [h4 (by rw [hr]; simp)]; exact .inr hw.up.size)
 have hsame:(fun q=>pr q∨mk q)=fun q=>pr q∨q=N:=funext fun q=>propext (or_congr_right (hmk q))
 rw [hsame]
 refine ⟨_,k1,rfl,?_,k2,fun q hq'=>?_⟩
 ·intro y hy
  simp only [anS,List.mem_cons,List.not_mem_nil,or_false] at hy
  rcases hy with rfl | rfl | rfl | rfl | rfl | rfl | rfl | rfl | rfl | rfl | rfl | rfl | rfl <;> trivial
 ·rw [(hmk q).1 hq',mN]; exact fun h=>nomatch h
end Go.Proofs.YtfpeholdlkfmoaaGreatDoor
/- words.Key, walked. -/
namespace Go.Proofs.YtfpeholdlkfmoaaGreatDoor
set_option linter.unusedSimpArgs false
set_option linter.unusedVariables false
open Go.RowKit
def chB (c:UInt8):Bool:=decide (32 < c.toNat) && decide (c.toNat ≠ 127)
theorem keyB_eq (k:List UInt8):keyB k=(!k.isEmpty && k.all chB && decide (k.length≤250)):=rfl
set_option maxHeartbeats 1000000 in
theorem key (k:List UInt8) (hl:k.length≤9223372036854775807) (w:World):Calls Tryz.prog 52 #[.string ⟨k.toArray⟩] w fun e w'=>e=.returned (.bool (keyB k))∧w=w':=by
 obtain ⟨n,hn⟩:∃ n,n=k.length:=⟨_,rfl⟩
 have HN:=Lib.hid hn
 rw [← hn] at hl
 have hfin:=keyB_eq k
 rw [← hn] at hfin
 have HF:=Lib.hid hfin
 have hsz:(⟨k.toArray⟩:ByteArray).size=n:=by rw [hn]; rfl
 clear hn hfin
 go_enter Tryz.func52,Tryz.ntmps52
 go_wp2_with fail
 go_loop [7] (fun i=>∃ j:Nat,j≤n∧i=.int .i64 j∧(k.take j).all chB=true) (fun i=>n - (intOf i).toNat)
 case atStart=>exact ⟨0,Nat.zero_le _,rfl,rfl⟩
 case round =>
  obtain ⟨j,hj,rfl,hall⟩:=hrel
  have HA:=Lib.hid hall; clear hall
  by_cases hlt:j < n
  ·have hjs:j < (⟨k.toArray⟩:ByteArray).size:=by rw [hsz]; exact hlt
   have hjk:j < k.length:=by rw [← HN.out]; exact hlt
   have hbyte:(⟨k.toArray⟩:ByteArray)[j]'hjs=k[j]'hjk:=rfl
   have HB:=Lib.hid hbyte; clear hbyte
   have hbad:chB (k[j]'hjk)=false→keyB k=false:=fun h=>by
    rw [keyB_eq]
    have:k.all chB=false:=by
     refine Bool.eq_false_iff.2 fun h2=>?_
     have:=List.all_eq_true.1 h2 _ (List.getElem_mem hjk)
     rw [h] at this; cases this
    rw [this]; simp
   have HBAD:=Lib.hid hbad; clear hbad
   by_cases h32:((⟨k.toArray⟩:ByteArray)[j]'hjs).toNat≤32
   ·go_wp2_with fail
    go_ret
    refine ⟨zH5 (HBAD.out ?_).symm,rfl⟩
    rw [← HB.out]; unfold chB; rw [decide_eq_false (by omega)]; rfl
   ·by_cases h127:((⟨k.toArray⟩:ByteArray)[j]'hjs).toNat=127
    ·have hb:((((⟨k.toArray⟩:ByteArray)[j]'hjs).toNat:Int) == 127)=true:=by rw [h127]; rfl
     have H127:=Lib.hid h127; clear h127
     go_wp2_with fail
     go_ret
     refine ⟨zH5 (HBAD.out ?_).symm,rfl⟩
     rw [← HB.out]; unfold chB; rw [H127.out]; rfl
    ·have hb:((((⟨k.toArray⟩:ByteArray)[j]'hjs).toNat:Int) == 127)=false:=by simp; omega
     have H127:=Lib.hid h127; clear h127
     go_wp2_with fail
     go_round
     case rel =>
      refine ⟨j+1,by omega,by go_num,?_⟩
      rw [List.take_succ_eq_append_getElem hjk,List.all_append,HA.out,← HB.out]
      simp only [List.all_cons,List.all_nil,chB,Bool.true_and,Bool.and_true]
      rw [decide_eq_true (by omega),decide_eq_true H127.out]; rfl
     case measure=>simp [intOf]; omega
  ·obtain rfl:j=n:=by omega
   have hka:k.all chB=true:=by have h:=HA.out; rwa [HN.out,List.take_length] at h
   have HKA:=Lib.hid hka; clear hka
   have hfin2:keyB k=(!k.isEmpty && decide (j≤250)):=by rw [HF.out,HKA.out,Bool.and_true]
   have HF2:=Lib.hid hfin2; clear hfin2
   by_cases h0:k=[]
   ·subst h0
    have hj0:j=0:=HN.out
    subst hj0
    go_wp2_with fail
    go_ret
    exact ⟨rfl,rfl⟩
   ·have he:k.isEmpty=false:=by simpa using h0
    have hne:(!k.isEmpty)=true:=by rw [he]; rfl
    go_wp2_with fail
    go_ret
    refine ⟨zH5 ?_,rfl⟩
    rw [HF2.out,he]
    by_cases h:j≤250
    ·rw [decide_eq_true h]; simp; omega
    ·rw [decide_eq_false h]; simp; omega
end Go.Proofs.YtfpeholdlkfmoaaGreatDoor
/- Whether a command may be: words.Key, near, may. -/
namespace Go.Proofs.YtfpeholdlkfmoaaGreatDoor
set_option linter.unusedSimpArgs false
set_option linter.unusedVariables false
open Go.RowKit
theorem near1 (n:Int) (w:World):Calls Tryz.prog 65 #[.int .i64 n] w fun e w'=>e=.returned (.bool (!zF5 n))∧w=w':=by
 have hfin:(!zF5 n)=(decide (n < -1099511627776) || decide (1099511627776 < n)):=by
  unfold zF5
  by_cases h1:n < -1099511627776
  ·rw [decide_eq_true h1,decide_eq_false (by omega)]; rfl
  ·rw [decide_eq_false h1,decide_eq_true (by omega)]
   by_cases h2:1099511627776 < n
   ·rw [decide_eq_true h2,decide_eq_false (by omega)]; rfl
   ·rw [decide_eq_false h2,decide_eq_true (by omega)]; rfl
 rw [hfin]
 clear hfin
 by_cases h1:n < -1099511627776
 all_goals
  go_enter Tryz.func65,Tryz.ntmps65
  go_wp2_with fail
  go_ret
  exact ⟨zH5 (by first | (simp [h1]; done) | (simp; omega)),rfl⟩
set_option maxHeartbeats 1000000 in
theorem near3 (b cap:Nat) (x y z:Int) (w:World) (h0:w.cell? ⟨b,0,none⟩=some (.int .i64 x)) (h1:w.cell? ⟨b,1,none⟩=some (.int .i64 y)) (h2:w.cell? ⟨b,2,none⟩=some (.int .i64 z)) :
  Calls Tryz.prog 51 #[.slice (some ⟨b,0,none⟩) 3 cap] w fun e w'=>e=.returned (.bool (zF5 x && zF5 y && zF5 z))∧w=w':=by
 have hcell:∀ k,k < 3→w.cell? ⟨b,k,none⟩=some (.int .i64 (([x,y,z]:List Int).getD k 0)):=fun k hk=>by
  have:k=0∨k=1∨k=2:=by omega
  rcases this with rfl | rfl | rfl
  ·exact h0
  ·exact h1
  ·exact h2
 have H:=Lib.hid hcell; clear hcell h0 h1 h2
 have I:Calls Tryz.prog 74 #[.slice (some ⟨b,0,none⟩) 3 cap,.func (.func 65) #[] #[]] w fun e w'=>((e=.returned (.int .i64 (-1))∧(zF5 x && zF5 y && zF5 z)=true)∨∃ k:Nat,k < 3∧e=.returned (.int .i64 k)∧(zF5 x && zF5 y && zF5 z)=false)∧w=w':=by
  go_enter Tryz.func74,Tryz.ntmps74
  go_wp2_with fail
  go_loop [8] (fun i=>∃ j:Nat,j≤3∧i=.int .i64 j∧∀ q,q < j→zF5 (([x,y,z]:List Int).getD q 0)=true) (fun i=>3 - (intOf i).toNat)
  case atStart=>exact ⟨0,Nat.zero_le _,rfl,fun q hq=>absurd hq (by omega)⟩
  case round =>
   obtain ⟨j,hj,rfl,hall⟩:=hrel
   have HA:=Lib.hid hall; clear hall
   by_cases hlt:j < 3
   ·have hc:=H.out j hlt
    obtain ⟨v,hv⟩:∃ v,v=([x,y,z]:List Int).getD j 0:=⟨_,rfl⟩
    rw [← hv] at hc
    have HV:=Lib.hid hv; clear hv
    have g1:(j:Int) < 3:=by omega
    go_wp2_with fail
    refine (near1 v w).mono ?_
    rintro e w' ⟨rfl,rfl⟩
    by_cases hv:zF5 v=true
    ·rw [hv]
     have HVN:=Lib.hid hv; clear hv
     go_wp2_with fail
     go_round
     case rel =>
      refine ⟨j+1,by omega,by go_num,fun q hq=>?_⟩
      rcases Nat.lt_or_ge q j with h | h
      ·exact HA.out q h
      ·obtain rfl:q=j:=by omega
       rw [← HV.out]; exact HVN.out
     case measure=>simp [intOf]; omega
    ·rw [show zF5 v=false by simpa using hv]
     have HVN:=Lib.hid hv; clear hv
     go_wp2_with fail
     go_ret
     refine ⟨.inr ⟨j,hlt,rfl,?_⟩,rfl⟩
     have hvv:=HVN.out
     rw [HV.out] at hvv
     have:j=0∨j=1∨j=2:=by omega
     rcases this with rfl | rfl | rfl
     ·have:zF5 x=false:=by simpa using hvv
      rw [this]; rfl
     ·have:zF5 y=false:=by simpa using hvv
      rw [this]; simp
     ·have:zF5 z=false:=by simpa using hvv
      rw [this]; simp
   ·obtain rfl:j=3:=by omega
    go_wp2_with fail
    go_ret
    refine ⟨.inl ⟨rfl,?_⟩,rfl⟩
    exact ⟨⟨HA.out 0 (by omega),HA.out 1 (by omega)⟩,HA.out 2 (by omega)⟩
 have HI:=Lib.hid I; clear I
 have C:Calls Tryz.prog 64 #[.slice (some ⟨b,0,none⟩) 3 cap,.func (.func 65) #[] #[]] w fun e w'=>e=.returned (.bool (!(zF5 x && zF5 y && zF5 z)))∧w=w':=by
  obtain ⟨B,hB⟩:∃ B,B=(zF5 x && zF5 y && zF5 z):=⟨_,rfl⟩
  rw [← hB] at HI ⊢
  go_enter Tryz.func64,Tryz.ntmps64
  go_wp2_with fail
  refine HI.out.mono ?_
  rintro e w' ⟨⟨rfl,hb⟩ | ⟨k,hk,rfl,hb⟩,rfl⟩
  ·have HBB:=Lib.hid hb; clear hb
   go_wp2_with fail
   go_ret
   exact ⟨zH5 (by rw [HBB.out]; rfl),rfl⟩
  ·have HBB:=Lib.hid hb; clear hb
   have hk0:(0:Int)≤(k:Int):=by omega
   go_wp2_with fail
   go_ret
   exact ⟨zH5 (by rw [HBB.out]; rfl),rfl⟩
 obtain ⟨B,hB⟩:∃ B,B=(zF5 x && zF5 y && zF5 z):=⟨_,rfl⟩
 rw [← hB] at C ⊢
 have HC:=Lib.hid C; clear C hB
 go_enter Tryz.func51,Tryz.ntmps51
 go_wp2_with fail
 refine HC.out.mono ?_
 rintro e w' ⟨rfl,rfl⟩
 go_wp2_with fail
 go_ret
 exact ⟨zH5 (by simp),rfl⟩
set_option maxRecDepth 100000 in
set_option maxHeartbeats 4000000 in
theorem may (c:Cd) (hk:c.key.length≤9223372036854775807) (hv:c.val.length≤9223372036854775807) (w:World):Calls Tryz.prog 29 #[.agg (cdA c)] w fun e w'=>e=.returned (.bool (zT0 c))∧Below w.heap.size w w':=by
 obtain ⟨op,mode,key,val,flags,exp,hasExp,cas,hasCas,delta,init,down,viv,vive,recache,inval⟩:=c
 simp only at hk hv
 have hsz:(⟨val.toArray⟩:ByteArray).size=val.length:=rfl
 simp only [cdA]
 by_cases hbad:op < 1∨7 < op∨mode < 0∨4 < mode∨65536 < val.length
 ·have hfin:zT0 ⟨op,mode,key,val,flags,exp,hasExp,cas,hasCas,delta,init,down,viv,vive,recache,inval⟩=false:=by
   unfold zT0
   simp only
   rcases hbad with h | h | h | h | h
   ·rw [decide_eq_false (by omega)]; simp
   ·rw [show decide (op≤7)=false from decide_eq_false (by omega)]; simp
   ·rw [show decide (0≤mode)=false from decide_eq_false (by omega)]; simp
   ·rw [show decide (mode≤4)=false from decide_eq_false (by omega)]; simp
   ·rw [show decide (val.length≤65536)=false from decide_eq_false (by omega)]; simp
  rw [hfin]
  clear hfin
  have hcases:op < 1∨(1≤op∧7 < op)∨(1≤op∧op≤7∧mode < 0)∨(1≤op∧op≤7∧0≤mode∧4 < mode)∨(1≤op∧op≤7∧0≤mode∧mode≤4∧(65536:Int) < (val.length:Int)):=by omega
  clear hbad
  rcases hcases with h | ⟨h,h1⟩ | ⟨h,h1,h2⟩ | ⟨h,h1,h2,h3⟩ | ⟨h,h1,h2,h3,h4⟩
  all_goals
   go_enter Tryz.func29,Tryz.ntmps29
   go_wp2_with fail
   go_ret
   exact ⟨rfl,(Below.refl _ _).alloc (Nat.le_refl _) _⟩
 ·have g1:1≤op:=by omega
  have g2:op≤7:=by omega
  have g3:0≤mode:=by omega
  have g4:mode≤4:=by omega
  have g5:(val.length:Int)≤65536:=by omega
  have g5':val.length≤65536:=by omega
  have hfin:zT0 ⟨op,mode,key,val,flags,exp,hasExp,cas,hasCas,delta,init,down,viv,vive,recache,inval⟩=((zF5 exp && zF5 vive && zF5 recache) && (decide (op=6) || keyB key)):=by
   unfold zT0
   simp only
   rw [decide_eq_true g1,decide_eq_true g2,decide_eq_true g3,decide_eq_true g4,decide_eq_true g5']
   simp [Bool.and_assoc]
  rw [hfin]
  clear hfin hbad
  obtain ⟨B,hB⟩:∃ B,B=(zF5 exp && zF5 vive && zF5 recache):=⟨_,rfl⟩
  rw [← hB]
  have N:=fun b cap w h0 h1 h2=>near3 b cap exp vive recache w h0 h1 h2
  rw [← hB] at N
  have HN:=Lib.hid N; clear N hB
  have K:=Lib.hid (fun w=>Go.Proofs.YtfpeholdlkfmoaaGreatDoor.key key hk w)
  cases B with
  | false =>
   go_enter Tryz.func29,Tryz.ntmps29
   go_wp2_with fail
   refine (HN.out _ _ _ (by go_simp) (by go_simp) (by go_simp)).mono ?_
   rintro e w' ⟨rfl,rfl⟩
   go_wp2_with fail
   go_ret
   exact ⟨rfl,((Below.refl _ _).alloc (Nat.le_refl _) _).alloc (by simp) _⟩
  | true =>
   by_cases h6:op=6
   ·subst h6
    go_enter Tryz.func29,Tryz.ntmps29
    go_wp2_with fail
    refine (HN.out _ _ _ (by go_simp) (by go_simp) (by go_simp)).mono ?_
    rintro e w' ⟨rfl,rfl⟩
    go_wp2_with fail
    go_ret
    exact ⟨rfl,((Below.refl _ _).alloc (Nat.le_refl _) _).alloc (by simp) _⟩
   ·have hb6:(op == 6)=false:=by simpa using h6
    have hd6:(true && (decide (op=6) || keyB key))=keyB key:=by rw [decide_eq_false h6]; rfl
    rw [hd6]
    clear hd6 h6
    go_enter Tryz.func29,Tryz.ntmps29
    go_wp2_with fail
    refine (HN.out _ _ _ (by go_simp) (by go_simp) (by go_simp)).mono ?_
    rintro e w' ⟨rfl,rfl⟩
    go_wp2_with fail
    refine (K.out _).mono ?_
    rintro e w' ⟨rfl,rfl⟩
    go_wp2_with fail
    go_ret
    exact ⟨rfl,((Below.refl _ _).alloc (Nat.le_refl _) _).alloc (by simp) _⟩
end Go.Proofs.YtfpeholdlkfmoaaGreatDoor
/- flush, by the symbolic walk. -/
namespace Go.Proofs.YtfpeholdlkfmoaaGreatDoor
set_option linter.unusedSimpArgs false
set_option linter.unusedVariables false
set_option maxHeartbeats 8000000
open Go.RowKit
set_option maxRecDepth 100000
theorem flush_op (base g:Nat) (v:Value) (X:St) (now:Int) (c:Cd) (most:Int) (i:Nat) (is:Bool) (w:World) (h:WS base w g v X now c most i is) (hbase:base≤w.heap.size) (his:is=true→i < X.items.length)
  (hn0:1≤now) (hn1:now≤1099511627776) :
  Calls Tryz.prog 41 #[.pointer (some ⟨g,0,none⟩)] w (OpR base g v (zI2 X now c).1 now c most i is (zI2 X now c).2 w):=by
 refine zN1 Tryz.func41 rfl kp41 Tryz.ntmps41 (by decide) h hbase his ?_
 intro vS tl hsh ρ hρ n hn hn' C hC hG hP hk
 have hctr:=zL7 hP
 have hf0:zF3 now c.exp≤now→zI2 X now c=({ X with items:=[],flush:=0 },zA7 10):=fun hv=>by simp [zI2,hv]
 have hf1:¬ zF3 now c.exp≤now→zI2 X now c=({ X with flush:=zF3 now c.exp },zA7 10):=fun hv=>by simp [zI2,hv]
 rcases hsh with ⟨rfl,⟨rfl,rfl⟩ | ⟨rfl,x,hx,rfl⟩⟩
 ·(refine zH1 hctr (rs:=res41) 300 _ _ _ ?_; simp (maxSteps:=1000000) only [VC,qH,qI,qJ,qK,qO,qP,qQ,qV,q0t,qv,ev,qw,qy,zC,zD,zE,zF,zG,zI,zJ,zK,zM,↓reduceIte,reduceCtorEq,Nat.reduceEqDiff,Nat.reduceAdd,Nat.reduceLT,zP,zQ,zR,zT,zt,zu,hP,hk,kp41,woE,woS,zG3,mC1,mC0,zA3,hn0,hn1])
  (refine zA1 hctr (by rw [hP]; rfl) rs41_2 [] (ensure_type_of% (Cmp.of (by simp (maxSteps := 1000000) only [qK, qO, qP, qQ, qR, qS, qV, ev, qy, zD, zM, ↓reduceIte, reduceCtorEq, Nat.reduceEqDiff, zt, zu, cD, cO, jC, jD, jN, hP]; rfl)) "" Cmp.mk) (by kernel_rfl) (by kernel_rfl) (by first | exact zA2 _ | kernel_rfl) (by kernel_rfl) (by rfl) (by rfl) (by first | exact zA0 _ | rfl) (by rfl) (by simp (maxSteps := 1000000) only [qK, qO, qP, qQ, qR, qS, qV, ev, qy, zD, zM, ↓reduceIte, reduceCtorEq, Nat.reduceEqDiff, zT, zn, zt, zu, jD, jN, jP, jQ, jR, jS, jT, hP]) ?_; refine zH1 hctr (rs := res41) 300 _ _ _ ?_; simp (maxSteps := 1000000) only [VC, qE, qF, qG, qH, qI, qJ, qK, qO, qP, qQ, qV, q0t, qu, qv, ev, qw, qy, qz, zA, zB, zC, zD, zE, zG, zI, zJ, TE.sv, zM, ↓reduceIte, reduceCtorEq, Value.oneCell', Nat.reduceEqDiff, Nat.reduceAdd, Nat.reduceLT, zP, zQ, zR, zf, zg, zt, zu, jN, jO, hP, hk, res41, kp41, mC1, mC0, zB5, zA7, It.zero, anS])
  refine ⟨fun hle=>?_,fun hle=>?_⟩
  ·rw [hf0 (by omega)] at hC
   exact zC4 hC hres41 hn hρ h.low (vS:=.v (.slice none 0 0)) rfl (.inl ⟨⟨none,rfl⟩,rfl⟩) rfl
  ·rw [hf1 (by omega)] at hC
   exact zC4 hC hres41 hn hρ h.low (vS:=.rw 1 X.items.length) rfl (.inr ⟨1,rfl,by decide,.inl rfl⟩) rfl
 ·(refine zH1 hctr (rs:=res41) 300 _ _ _ ?_; simp (maxSteps:=1000000) only [VC,qH,qI,qJ,qK,qO,qP,qQ,qV,q0t,qv,ev,qw,qy,zC,zD,zE,zF,zG,zI,zJ,zK,zM,↓reduceIte,reduceCtorEq,Nat.reduceEqDiff,Nat.reduceAdd,Nat.reduceLT,zP,zQ,zR,zT,zt,zu,hP,hk,kp41,woE,woS,zF1,itS,mC1,mC0,zA3,hn0,hn1])
  (refine zA1 hctr (by rw [hP]; rfl) rs41_2 [] (ensure_type_of% (Cmp.of (by simp (maxSteps := 1000000) only [qK, qO, qP, qQ, qR, qS, qV, ev, qy, zD, zM, ↓reduceIte, reduceCtorEq, Nat.reduceEqDiff, zt, zu, cD, cO, jC, jD, jN, hP]; rfl)) "" Cmp.mk) (by kernel_rfl) (by kernel_rfl) (by first | exact zA2 _ | kernel_rfl) (by kernel_rfl) (by rfl) (by rfl) (by first | exact zA0 _ | rfl) (by rfl) (by simp (maxSteps := 1000000) only [qK, qO, qP, qQ, qR, qS, qV, ev, qy, zD, zM, ↓reduceIte, reduceCtorEq, Nat.reduceEqDiff, zT, zn, zt, zu, jD, jN, jP, jQ, jR, jS, jT, hP]) ?_; refine zH1 hctr (rs := res41) 300 _ _ _ ?_; simp (maxSteps := 1000000) only [VC, qE, qF, qG, qH, qI, qJ, qK, qO, qP, qQ, qV, q0t, qu, qv, ev, qw, qy, qz, zA, zB, zC, zD, zE, zG, zI, zJ, TE.sv, zM, ↓reduceIte, reduceCtorEq, Value.oneCell', Nat.reduceEqDiff, Nat.reduceAdd, Nat.reduceLT, zP, zQ, zR, zf, zg, zt, zu, jN, jO, hP, hk, res41, kp41, mC1, mC0, zB5, zA7, It.zero, anS])
  refine ⟨fun hle=>?_,fun hle=>?_⟩
  ·rw [hf0 (by omega)] at hC
   exact zC4 hC hres41 hn hρ h.low (vS:=.v (.slice none 0 0)) rfl (.inl ⟨⟨none,rfl⟩,rfl⟩) rfl
  ·rw [hf1 (by omega)] at hC
   exact zC4 hC hres41 hn hρ h.low (vS:=.rw 1 X.items.length) rfl (.inr ⟨1,rfl,by decide,.inr ⟨i,x,hx,rfl⟩⟩) rfl
end Go.Proofs.YtfpeholdlkfmoaaGreatDoor
/- remove, by the symbolic walk: printed by gen_remove.py. -/
namespace Go.Proofs.YtfpeholdlkfmoaaGreatDoor
set_option linter.unusedSimpArgs false
set_option linter.unusedVariables false
set_option maxHeartbeats 8000000
open Go.RowKit
set_option maxRecDepth 100000
theorem remove_no (base g:Nat) (v:Value) (X:St) (now:Int) (op mode:Int) (key val:List UInt8) (flags exp:Int) (hasExp:Bool) (cas:Int) (hasCas:Bool) (delta init:Int) (down viv:Bool) (vive recache:Int) (inval:Bool) (most:Int) (i:Nat) (w:World) (h:WS base w g v X now ⟨op,mode,key,val,flags,exp,hasExp,cas,hasCas,delta,init,down,viv,vive,recache,inval⟩ most i false) (hbase:base≤w.heap.size) (hi:i≤X.items.length) (his:false=true→i < X.items.length) (hl:X.items.length≤100000000)
 (hn0:1≤now) (hn1:now≤1099511627776)
 : Calls Tryz.prog 40 #[.pointer (some ⟨g,0,none⟩)] w (OpR base g v (zD1 X now ⟨op,mode,key,val,flags,exp,hasExp,cas,hasCas,delta,init,down,viv,vive,recache,inval⟩ i false).1 now ⟨op,mode,key,val,flags,exp,hasExp,cas,hasCas,delta,init,down,viv,vive,recache,inval⟩ most i false (zD1 X now ⟨op,mode,key,val,flags,exp,hasExp,cas,hasCas,delta,init,down,viv,vive,recache,inval⟩ i false).2 w):=by
 refine zN1 Tryz.func40 rfl kp40 Tryz.ntmps40 (by decide) h hbase his ?_
 intro vS tl hsh ρ hρ n hn hn' C hC hG hP hk
 have hctr:=zL7 hP
 rw [show zD1 X now ⟨op,mode,key,val,flags,exp,hasExp,cas,hasCas,delta,init,down,viv,vive,recache,inval⟩ i false=(X,zA7 5) by simp [zD1]] at hC
 rcases hsh with ⟨rfl,⟨_,rfl⟩ | ⟨h1,_⟩⟩
 ·(refine zA6 hctr (rs:=res40) true 300 _ _ _ ?_; simp (maxSteps:=1000000) only [VG,qE,qF,qG,qH,qI,qJ,qK,qO,qP,qQ,qT,qV,q0t,qu,qv,ev,qw,qy,qz,zA,zB,zC,zD,zE,zF,zG,zI,zJ,TE.sv,zK,zM,↓reduceIte,reduceCtorEq,Nat.reduceEqDiff,Nat.reduceAdd,Nat.reduceLT,zP,zQ,zR,zS,zV,zW,zb,zc,zt,hP,hk,res40,kp40,mC1,mC0,zB5,zA7,It.zero,anS,woE,woS,zG3])
  exact zC4 hC hres40 hn hρ h.low (vS:=.rw 1 X.items.length) rfl (.inr ⟨1,rfl,by decide,.inl rfl⟩) rfl
 ·cases h1
theorem remove_win (base g:Nat) (v:Value) (X:St) (now:Int) (op mode:Int) (key val:List UInt8) (flags exp:Int) (hasExp:Bool) (cas:Int) (hasCas:Bool) (delta init:Int) (down viv:Bool) (vive recache:Int) (inval:Bool) (most:Int) (i:Nat) (w:World) (h:WS base w g v X now ⟨op,mode,key,val,flags,exp,hasExp,cas,hasCas,delta,init,down,viv,vive,recache,inval⟩ most i true) (hbase:base≤w.heap.size) (hi:i≤X.items.length) (his:true=true→i < X.items.length) (hl:X.items.length≤100000000)
 (hn0:1≤now) (hn1:now≤1099511627776)
 (x:It) (hx:X.items[i]?=some x):Calls Tryz.prog 40 #[.pointer (some ⟨g,0,none⟩)] w (OpR base g v (zD1 X now ⟨op,mode,key,val,flags,exp,hasExp,cas,hasCas,delta,init,down,viv,vive,recache,inval⟩ i true).1 now ⟨op,mode,key,val,flags,exp,hasExp,cas,hasCas,delta,init,down,viv,vive,recache,inval⟩ most i true (zD1 X now ⟨op,mode,key,val,flags,exp,hasExp,cas,hasCas,delta,init,down,viv,vive,recache,inval⟩ i true).2 w):=by
 refine zN1 Tryz.func40 rfl kp40 Tryz.ntmps40 (by decide) h hbase his ?_
 intro vS tl hsh ρ hρ n hn hn' C hC hG hP hk
 have hctr:=zL7 hP
 rcases hsh with ⟨rfl,⟨h1,_⟩ | ⟨_,x',hx',rfl⟩⟩
 ·cases h1
 obtain rfl:x=x':=by rw [hx] at hx'; exact Option.some.inj hx'
 clear hx'
 have hif:itF X.items i=x:=by simp [itF,hx]
 have hil:i < X.items.length:=his rfl
 have hil':(i:Int) < (X.items.length:Int):=by omega
 have hsub:IntKind.i64.wrap ((i:Int)+1)=(i:Int)+1:=IntWalk.i64_in _ (by omega)
 cases hasCas with
 | false =>
  cases inval with
  | false =>
   (refine zA6 hctr (rs:=res40) true 300 _ _ _ ?_; simp (maxSteps:=1000000) only [VG,qH,qI,qK,qO,qP,qQ,qT,qV,ev,qw,qy,zD,zF,zG,zI,zJ,zK,zM,↓reduceIte,reduceCtorEq,Nat.reduceEqDiff,Nat.reduceAdd,Nat.reduceLT,zP,zQ,zR,zS,zT,zV,zW,zb,zc,zh,zt,zw,hP,hk,res40,kp40,mC1,zC2,woE,woS,zF1,itS,Int.natCast_nonneg,hil'])
   rw [show zD1 X now ⟨op,mode,key,val,flags,exp,hasExp,cas,false,delta,init,down,viv,vive,recache,false⟩ i true=({ X with items:=X.items.eraseIdx i },zA7 9) by simp [zD1,zB3,hif]] at hC
   (refine zA1 hctr (by rw [hP]; rfl) rs40_6 [⟨.c (.rw 3 (X.items.eraseIdx i).length), [woE (.rw 1 X.items.length) X now ⟨op, mode, key, val, flags, exp, hasExp, cas, false, delta, init, down, viv, vive, recache, false⟩ most i true, zA4 (zF1 base X.items i x), ⟨(35, 0, whole), [.i .i64 0, .s [], .i .u32 0, .s [], .i .i64 0, .i .u64 0, .i .i64 0, .b false, .b false, .i .u64 0, .b false, .b false, .b false], true⟩, zG3 base (X.items.eraseIdx i)]⟩] (ensure_type_of% (Cmp.of (by simp (maxSteps := 1000000) only [qA, qK, qO, qP, qQ, qR, qS, qV, q0t, qv, ev, qw, qy, qz, zC, zD, zE, zF, zG, zM, ↓reduceIte, reduceCtorEq, Nat.reduceEqDiff, Nat.reduceAdd, zP, zt, zu, zA4, cD, cO, jC, jD, jH, jK, jL, jM, jN, hP, mC1, mC0, woE, woS, zF1, zG3, itS, zA4, hsub]; rfl)) "" Cmp.mk) (by kernel_rfl) (by kernel_rfl) (by first | exact zA2 _ | kernel_rfl) (by kernel_rfl) (by rfl) (by rfl) (by first | exact zA0 _ | rfl) (by rfl) ?_ ?_; rotate_left; refine zA6 hctr (rs := res40) true 300 _ _ _ ?_; simp (maxSteps := 1000000) only [VG, qE, qF, qG, qH, qI, qJ, qP, q0t, qu, qv, ev, qw, qy, qz, zA, zB, zC, zD, zE, zG, zI, zJ, TE.sv, zM, ↓reduceIte, reduceCtorEq, Nat.reduceEqDiff, Nat.reduceAdd, Nat.reduceLT, zP, zQ, zR, zt, jN, jO, hP, hk, res40, kp40, mC1, mC0, zB5, zA7, It.zero, anS]; rotate_left; simp (maxSteps := 1000000) only [qK, qO, qP, qQ, qR, qS, qV, q0t, qv, ev, qw, qy, qz, zC, zD, zE, zG, zM, ↓reduceIte, reduceCtorEq, Nat.reduceEqDiff, Nat.reduceAdd, Nat.reduceSub, zP, zR, zS, zT, zn, zt, zu, jD, jH, jN, jP, jQ, jR, jS, jT, jU, hP, hsub])
   ·refine zX9 hP (d:=1) (i:=i) (xs:=X.items) (base:=base) ?_ (.inr ⟨i,x,hx,rfl⟩) ?_ hil ?_ ?_ ?_ ?_
    ·rfl
    ·have:=hG.n1; omega
    ·omega
    ·decide
    ·exact fun q=>mkC_one
    ·exact cut_at rfl
   ·exact zC4 hC hres40 hn hρ h.low (vS:=.rw 3 (X.items.eraseIdx i).length) rfl (.inr ⟨3,rfl,by decide,.inl rfl⟩) rfl
  | true =>
   cases hasExp
   ·(refine zA6 hctr (rs:=res40) true 300 _ _ _ ?_; simp (maxSteps:=1000000) only [VG,qH,qI,qJ,qK,qO,qP,qQ,qT,qV,q0t,qu,qv,ev,qw,qy,qz,zA,zB,zC,zD,zE,zF,zG,zI,zJ,zK,zM,↓reduceIte,reduceCtorEq,Nat.reduceEqDiff,Nat.reduceAdd,Nat.reduceLT,zP,zQ,zR,zT,zV,zW,zb,zc,zh,zt,zw,hP,hk,res40,kp40,mC1,mC0,zB7,zC2,woE,woS,zF1,itS,Int.natCast_nonneg,hil'])
    obtain ⟨Y,hY⟩:∃ Y,Y=zJ4 X i true ⟨x.key,x.flags,x.val,x.exp,x.cas,x.last,true,false⟩:=⟨_,rfl⟩
    have hYi:Y.1.items[i]?=some Y.2:=by rw [hY]; exact zC5 X i _ _ hi his
    rw [show zD1 X now ⟨op,mode,key,val,flags,exp,false,cas,false,delta,init,down,viv,vive,recache,true⟩ i true=(Y.1,⟨9,Y.2,0,false,false,false⟩) by rw [hY]; simp [zD1,zB3,zX0,hif]] at hC
    refine zE1 ⟨x.key,x.flags,x.val,x.exp,x.cas,x.last,true,false⟩ hY hG (X:=X) (now:=now) (c:=⟨op,mode,key,val,flags,exp,false,cas,false,delta,init,down,viv,vive,recache,true⟩) (most:=most) (i:=i) (is:=true) rfl (.inr ⟨i,x,hx,rfl⟩) hi his hl rfl (by simp) ?_
    (refine zA6 hctr (rs:=res40) true 300 _ _ _ ?_; simp (maxSteps:=1000000) only [VG,qE,qF,qG,qH,qI,qJ,qK,qP,qQ,qf,qg,q0t,qu,qv,ev,qy,qz,zA,zB,zC,zD,zE,zF,zG,zI,zJ,TE.sv,zM,↓reduceIte,reduceCtorEq,Nat.reduceEqDiff,Nat.reduceAdd,Nat.reduceLT,zP,zQ,zR,zk,zl,zt,zA4,jN,hP,hk,res40,kp40,woE,woS,zF1,itS,zA4])
    exact zC4 hC hres40 hn hρ h.low (vS:=.rw 4 Y.1.items.length) rfl (.inr ⟨4,rfl,by decide,.inr ⟨i,Y.2,hYi,rfl⟩⟩) rfl
   ·(refine zA6 hctr (rs:=res40) true 300 _ _ _ ?_; simp (maxSteps:=1000000) only [VG,qH,qI,qJ,qK,qO,qP,qQ,qT,qV,q0t,qu,qv,ev,qw,qy,qz,zA,zB,zC,zD,zE,zF,zG,zI,zJ,zK,zM,↓reduceIte,reduceCtorEq,Nat.reduceEqDiff,Nat.reduceAdd,Nat.reduceLT,zP,zQ,zR,zS,zT,zV,zW,zb,zc,zh,zt,zw,hP,hk,res40,kp40,mC1,mC0,zA3,zB7,zC2,woE,woS,zF1,itS,hn0,hn1,Int.natCast_nonneg,hil'])
    obtain ⟨Y,hY⟩:∃ Y,Y=zJ4 X i true ⟨x.key,x.flags,x.val,zF3 now exp,x.cas,x.last,true,false⟩:=⟨_,rfl⟩
    have hYi:Y.1.items[i]?=some Y.2:=by rw [hY]; exact zC5 X i _ _ hi his
    rw [show zD1 X now ⟨op,mode,key,val,flags,exp,true,cas,false,delta,init,down,viv,vive,recache,true⟩ i true=(Y.1,⟨9,Y.2,0,false,false,false⟩) by rw [hY]; simp [zD1,zB3,zX0,hif]] at hC
    refine zE1 ⟨x.key,x.flags,x.val,zF3 now exp,x.cas,x.last,true,false⟩ hY hG (X:=X) (now:=now) (c:=⟨op,mode,key,val,flags,exp,true,cas,false,delta,init,down,viv,vive,recache,true⟩) (most:=most) (i:=i) (is:=true) rfl (.inr ⟨i,x,hx,rfl⟩) hi his hl rfl (by simp) ?_
    (refine zA6 hctr (rs:=res40) true 300 _ _ _ ?_; simp (maxSteps:=1000000) only [VG,qE,qF,qG,qH,qI,qJ,qK,qP,qQ,qf,qg,q0t,qu,qv,ev,qy,qz,zA,zB,zC,zD,zE,zF,zG,zI,zJ,TE.sv,zM,↓reduceIte,reduceCtorEq,Nat.reduceEqDiff,Nat.reduceAdd,Nat.reduceLT,zP,zQ,zR,zk,zl,zt,zA4,jN,hP,hk,res40,kp40,woE,woS,zF1,itS,zA4])
    exact zC4 hC hres40 hn hρ h.low (vS:=.rw 4 Y.1.items.length) rfl (.inr ⟨4,rfl,by decide,.inr ⟨i,Y.2,hYi,rfl⟩⟩) rfl
 | true =>
  by_cases hoc:x.cas=cas
  ·have hoc':decide (x.cas=cas)=true:=decide_eq_true hoc
   cases inval with
   | false =>
    (refine zA6 hctr (rs:=res40) true 300 _ _ _ ?_; simp (maxSteps:=1000000) only [VG,qH,qI,qK,qO,qP,qQ,qT,qV,ev,qw,qy,zD,zF,zG,zI,zJ,zK,zM,↓reduceIte,reduceCtorEq,Nat.reduceEqDiff,Nat.reduceAdd,Nat.reduceLT,zP,zQ,zR,zS,zT,zV,zW,zb,zc,zh,zt,zx,hP,hk,res40,kp40,mC1,zC2,woE,woS,zF1,itS,Int.natCast_nonneg,hil',hoc'])
    rw [show zD1 X now ⟨op,mode,key,val,flags,exp,hasExp,cas,true,delta,init,down,viv,vive,recache,false⟩ i true=({ X with items:=X.items.eraseIdx i },zA7 9) by simp [zD1,zB3,hif,hoc]] at hC
    (refine zA1 hctr (by rw [hP]; rfl) rs40_6 [⟨.c (.rw 3 (X.items.eraseIdx i).length), [woE (.rw 1 X.items.length) X now ⟨op, mode, key, val, flags, exp, hasExp, cas, true, delta, init, down, viv, vive, recache, false⟩ most i true, zA4 (zF1 base X.items i x), ⟨(35, 0, whole), [.i .i64 0, .s [], .i .u32 0, .s [], .i .i64 0, .i .u64 0, .i .i64 0, .b false, .b false, .i .u64 0, .b false, .b false, .b false], true⟩, zG3 base (X.items.eraseIdx i)]⟩] (ensure_type_of% (Cmp.of (by simp (maxSteps := 1000000) only [qA, qK, qO, qP, qQ, qR, qS, qV, q0t, qv, ev, qw, qy, qz, zC, zD, zE, zF, zG, zM, ↓reduceIte, reduceCtorEq, Nat.reduceEqDiff, Nat.reduceAdd, zP, zt, zu, zA4, cD, cO, jC, jD, jH, jK, jL, jM, jN, hP, mC1, mC0, woE, woS, zF1, zG3, itS, zA4, hsub]; rfl)) "" Cmp.mk) (by kernel_rfl) (by kernel_rfl) (by first | exact zA2 _ | kernel_rfl) (by kernel_rfl) (by rfl) (by rfl) (by first | exact zA0 _ | rfl) (by rfl) ?_ ?_; rotate_left; refine zA6 hctr (rs := res40) true 300 _ _ _ ?_; simp (maxSteps := 1000000) only [VG, qE, qF, qG, qH, qI, qJ, qP, q0t, qu, qv, ev, qw, qy, qz, zA, zB, zC, zD, zE, zG, zI, zJ, TE.sv, zM, ↓reduceIte, reduceCtorEq, Nat.reduceEqDiff, Nat.reduceAdd, Nat.reduceLT, zP, zQ, zR, zt, jN, jO, hP, hk, res40, kp40, mC1, mC0, zB5, zA7, It.zero, anS]; rotate_left; simp (maxSteps := 1000000) only [qK, qO, qP, qQ, qR, qS, qV, q0t, qv, ev, qw, qy, qz, zC, zD, zE, zG, zM, ↓reduceIte, reduceCtorEq, Nat.reduceEqDiff, Nat.reduceAdd, Nat.reduceSub, zP, zR, zS, zT, zn, zt, zu, jD, jH, jN, jP, jQ, jR, jS, jT, jU, hP, hsub])
    ·refine zX9 hP (d:=1) (i:=i) (xs:=X.items) (base:=base) ?_ (.inr ⟨i,x,hx,rfl⟩) ?_ hil ?_ ?_ ?_ ?_
     ·rfl
     ·have:=hG.n1; omega
     ·omega
     ·decide
     ·exact fun q=>mkC_one
     ·exact cut_at rfl
    ·exact zC4 hC hres40 hn hρ h.low (vS:=.rw 3 (X.items.eraseIdx i).length) rfl (.inr ⟨3,rfl,by decide,.inl rfl⟩) rfl
   | true =>
    cases hasExp
    ·(refine zA6 hctr (rs:=res40) true 300 _ _ _ ?_; simp (maxSteps:=1000000) only [VG,qH,qI,qJ,qK,qO,qP,qQ,qT,qV,q0t,qu,qv,ev,qw,qy,qz,zA,zB,zC,zD,zE,zF,zG,zI,zJ,zK,zM,↓reduceIte,reduceCtorEq,Nat.reduceEqDiff,Nat.reduceAdd,Nat.reduceLT,zP,zQ,zR,zT,zV,zW,zb,zc,zh,zt,zx,hP,hk,res40,kp40,mC1,mC0,zB7,zC2,woE,woS,zF1,itS,Int.natCast_nonneg,hil',hoc'])
     obtain ⟨Y,hY⟩:∃ Y,Y=zJ4 X i true ⟨x.key,x.flags,x.val,x.exp,x.cas,x.last,true,false⟩:=⟨_,rfl⟩
     have hYi:Y.1.items[i]?=some Y.2:=by rw [hY]; exact zC5 X i _ _ hi his
     rw [show zD1 X now ⟨op,mode,key,val,flags,exp,false,cas,true,delta,init,down,viv,vive,recache,true⟩ i true=(Y.1,⟨9,Y.2,0,false,false,false⟩) by rw [hY]; simp [zD1,zB3,zX0,hif,hoc]] at hC
     refine zE1 ⟨x.key,x.flags,x.val,x.exp,x.cas,x.last,true,false⟩ hY hG (X:=X) (now:=now) (c:=⟨op,mode,key,val,flags,exp,false,cas,true,delta,init,down,viv,vive,recache,true⟩) (most:=most) (i:=i) (is:=true) rfl (.inr ⟨i,x,hx,rfl⟩) hi his hl rfl (by simp) ?_
     (refine zA6 hctr (rs:=res40) true 300 _ _ _ ?_; simp (maxSteps:=1000000) only [VG,qE,qF,qG,qH,qI,qJ,qK,qP,qQ,qf,qg,q0t,qu,qv,ev,qy,qz,zA,zB,zC,zD,zE,zF,zG,zI,zJ,TE.sv,zM,↓reduceIte,reduceCtorEq,Nat.reduceEqDiff,Nat.reduceAdd,Nat.reduceLT,zP,zQ,zR,zk,zl,zt,zA4,jN,hP,hk,res40,kp40,woE,woS,zF1,itS,zA4])
     exact zC4 hC hres40 hn hρ h.low (vS:=.rw 4 Y.1.items.length) rfl (.inr ⟨4,rfl,by decide,.inr ⟨i,Y.2,hYi,rfl⟩⟩) rfl
    ·(refine zA6 hctr (rs:=res40) true 300 _ _ _ ?_; simp (maxSteps:=1000000) only [VG,qH,qI,qJ,qK,qO,qP,qQ,qT,qV,q0t,qu,qv,ev,qw,qy,qz,zA,zB,zC,zD,zE,zF,zG,zI,zJ,zK,zM,↓reduceIte,reduceCtorEq,Nat.reduceEqDiff,Nat.reduceAdd,Nat.reduceLT,zP,zQ,zR,zS,zT,zV,zW,zb,zc,zh,zt,zx,hP,hk,res40,kp40,mC1,mC0,zA3,zB7,zC2,woE,woS,zF1,itS,hn0,hn1,Int.natCast_nonneg,hil',hoc'])
     obtain ⟨Y,hY⟩:∃ Y,Y=zJ4 X i true ⟨x.key,x.flags,x.val,zF3 now exp,x.cas,x.last,true,false⟩:=⟨_,rfl⟩
     have hYi:Y.1.items[i]?=some Y.2:=by rw [hY]; exact zC5 X i _ _ hi his
     rw [show zD1 X now ⟨op,mode,key,val,flags,exp,true,cas,true,delta,init,down,viv,vive,recache,true⟩ i true=(Y.1,⟨9,Y.2,0,false,false,false⟩) by rw [hY]; simp [zD1,zB3,zX0,hif,hoc]] at hC
     refine zE1 ⟨x.key,x.flags,x.val,zF3 now exp,x.cas,x.last,true,false⟩ hY hG (X:=X) (now:=now) (c:=⟨op,mode,key,val,flags,exp,true,cas,true,delta,init,down,viv,vive,recache,true⟩) (most:=most) (i:=i) (is:=true) rfl (.inr ⟨i,x,hx,rfl⟩) hi his hl rfl (by simp) ?_
     (refine zA6 hctr (rs:=res40) true 300 _ _ _ ?_; simp (maxSteps:=1000000) only [VG,qE,qF,qG,qH,qI,qJ,qK,qP,qQ,qf,qg,q0t,qu,qv,ev,qy,qz,zA,zB,zC,zD,zE,zF,zG,zI,zJ,TE.sv,zM,↓reduceIte,reduceCtorEq,Nat.reduceEqDiff,Nat.reduceAdd,Nat.reduceLT,zP,zQ,zR,zk,zl,zt,zA4,jN,hP,hk,res40,kp40,woE,woS,zF1,itS,zA4])
     exact zC4 hC hres40 hn hρ h.low (vS:=.rw 4 Y.1.items.length) rfl (.inr ⟨4,rfl,by decide,.inr ⟨i,Y.2,hYi,rfl⟩⟩) rfl
  ·have hoc':decide (x.cas=cas)=false:=decide_eq_false hoc
   (refine zA6 hctr (rs:=res40) true 300 _ _ _ ?_; simp (maxSteps:=1000000) only [VG,qE,qF,qG,qH,qI,qJ,qK,qO,qP,qQ,qT,qV,q0t,qu,qv,ev,qw,qy,qz,zA,zB,zC,zD,zE,zF,zG,zI,zJ,TE.sv,zK,zM,↓reduceIte,reduceCtorEq,Nat.reduceEqDiff,Nat.reduceAdd,Nat.reduceLT,zP,zQ,zR,zS,zT,zV,zW,zb,zc,zh,zt,zx,hP,hk,res40,kp40,mC1,mC0,zB5,zC2,zA7,It.zero,anS,woE,woS,zF1,itS,Int.natCast_nonneg,hil',hoc'])
   rw [show zD1 X now ⟨op,mode,key,val,flags,exp,hasExp,cas,true,delta,init,down,viv,vive,recache,inval⟩ i true=(X,zA7 4) by simp [zD1,zB3,hif,hoc]] at hC
   exact zC4 hC hres40 hn hρ h.low (vS:=.rw 1 X.items.length) rfl (.inr ⟨1,rfl,by decide,.inr ⟨i,x,hx,rfl⟩⟩) rfl
theorem zV7 (base g:Nat) (v:Value) (X:St) (now:Int) (c:Cd) (most:Int) (i:Nat) (is:Bool) (w:World) (h:WS base w g v X now c most i is) (hbase:base≤w.heap.size) (hi:i≤X.items.length) (his:is=true→i < X.items.length) (hl:X.items.length≤100000000)
 (hn0:1≤now) (hn1:now≤1099511627776) :
 Calls Tryz.prog 40 #[.pointer (some ⟨g,0,none⟩)] w (OpR base g v (zD1 X now c i is).1 now c most i is (zD1 X now c i is).2 w):=by
 rcases c with ⟨op,mode,key,val,flags,exp,hasExp,cas,hasCas,delta,init,down,viv,vive,recache,inval⟩
 cases is with
 | false=>exact remove_no _ _ _ _ _ _ _ _ _ _ _ _ _ _ _ _ _ _ _ _ _ _ _ _ h hbase hi his hl hn0 hn1
 | true=>exact remove_win _ _ _ _ _ _ _ _ _ _ _ _ _ _ _ _ _ _ _ _ _ _ _ _ h hbase hi his hl hn0 hn1 _ (List.getElem?_eq_getElem (his rfl))
end Go.Proofs.YtfpeholdlkfmoaaGreatDoor
