/- A key can be lost only if it is there: the plain law, and what the walk lacks. -/
import Derived.Test.YtfpeholdlkfmoaaGreatDoorBS19
namespace Go.Proofs.YtfpeholdlkfmoaaGreatDoor
set_option linter.unusedSimpArgs false
set_option linter.unusedVariables false
open Go.RowKit
set_option maxRecDepth 100000
def losE (now:Int) (key:List UInt8):Ev:=⟨2,now,0,0,0,Cd.zero,An.zero,[key]⟩
theorem gone_key {X:St} {now:Int} {key:List UInt8} (hs:Sorted X.items) (hi:isF X.items key=true) {cas flush now':Int}:isF (zB1 ⟨X.items.eraseIdx (atF X.items key),cas,flush⟩ now').items key=false:=by
 have hs2:Sorted (X.items.eraseIdx (atF X.items key)):=hs.erase _
 cases hx:isF (zB1 ⟨X.items.eraseIdx (atF X.items key),cas,flush⟩ now').items key with
 | false=>rfl
 | true =>
  obtain ⟨x,hm,hk⟩:=isF_mem hx
  have hm2:x∈X.items.eraseIdx (atF X.items key):=zU8 hm
  rw [del_at hs hi] at hm2 hs2
  have h1:=(zX6 (k:=key) hs2).2 ⟨hm2,hk⟩
  rw [fE_rmL hs,if_pos rfl] at h1
  cases h1
theorem lost_run {most:Int} {qw:List Ev} {W:Au} (hr:zH7 (au0 most) qw 0=(W,-1)) {now:Int} (h1:W.now≤now) (h2:now≤1099511627776) (key:List UInt8) :
  (isF (zB1 W.X now).items key=false→(zH7 (au0 most) (qw++[losE now key]) 0).2=(qw.length:Int)) ∧
  (isF (zB1 W.X now).items key=true→Sorted W.X.items→(zH7 (au0 most) (qw++[losE now key]) 0).2=-1∧(zH7 (au0 most) (qw++[losE now key]++[losE now key]) 0).2=((qw.length+1:Nat):Int)):=by
 have hno:∀ (V:Au),V.now≤now→isF (zB1 V.X now).items key=false→zD7 V (losE now key)=none:=by
  intro V hv hi
  unfold zD7
  rw [if_neg (by show ¬ now < V.now; omega),if_neg (by show ¬ 1099511627776 < now; omega)]
  have:zF8 (zB1 V.X now) [key]=none:=by simp only [zF8,zQ5,hi]; rfl
  show (match zF8 (zB1 V.X now) [key] with | none=>none | some s=>_)=none
  rw [this]
 refine ⟨fun hi=>?_,fun hi hs=>?_⟩
 ·rw [zM5 hr,hno W h1 hi]
  simp only [Nat.zero_add]
 ·have hgo:zD7 W (losE now key)=some ⟨{ zB1 W.X now with items:=(zB1 W.X now).items.eraseIdx (atF (zB1 W.X now).items key) },now,W.tn,W.most⟩:=by
   unfold zD7
   rw [if_neg (by show ¬ now < W.now; omega),if_neg (by show ¬ 1099511627776 < now; omega)]
   simp only [losE,zF8,zQ5,hi,if_true]
   rfl
  have h3:zH7 (au0 most) (qw++[losE now key]) 0=(⟨{ zB1 W.X now with items:=(zB1 W.X now).items.eraseIdx (atF (zB1 W.X now).items key) },now,W.tn,W.most⟩,-1):=by rw [zM5 hr,hgo]
  refine ⟨by rw [h3],?_⟩
  rw [zM5 h3,hno _ (Int.le_refl _) (gone_key (X:=zB1 W.X now) (now:=now) (zD6 _ hs) hi)]
  simp only [Nat.zero_add,List.length_append,List.length_cons,List.length_nil]
def lastN (L:List EvR):Int:=match L.getLast? with
 | some x=>x.e.now
 | none=>1
theorem lastN_at {L:List EvR} {x:EvR} (hx:L[L.length - 1]?=some x):lastN L=x.e.now:=by
 unfold lastN
 rw [List.getLast?_eq_getElem?,hx]
theorem last_run {most:Int} {L:List EvR} {W:Au} (hr:zH7 (au0 most) (L.map (·.e)) 0=(W,-1)) (hc:∀ x∈L,CdOk x.e.cmd):W.now≤lastN L∧lastN L≤1099511627776∧WellF L.length W:=by
 have hw:=run_well (most:=most) (well0 most) (fun e he=>by obtain ⟨z,hz,rfl⟩:=List.mem_map.1 he; exact hc z hz) hr
 rw [Nat.zero_add,List.length_map] at hw
 cases hL:L with
 | nil =>
  subst hL
  simp only [List.map_nil,zH7,Prod.mk.injEq,and_true] at hr
  subst hr
  exact ⟨Int.le_refl 1,by show (1:Int)≤_; omega,hw⟩
 | cons y r =>
  rw [← hL]
  have hl:0 < L.length:=by rw [hL]; exact Nat.succ_pos _
  obtain ⟨x,hx⟩:∃ x,L[L.length - 1]?=some x:=⟨_,List.getElem?_eq_getElem (by omega)⟩
  obtain ⟨W1,h1,h2,h3,h4⟩:=run_now hr (fun e he=>by obtain ⟨z,hz,rfl⟩:=List.mem_map.1 he; exact hc z hz) (j:=L.length - 1) (e:=x.e) (by rw [List.getElem?_map,hx]; rfl)
  rw [show L.length - 1+1=(L.map (·.e)).length by rw [List.length_map]; omega,List.take_length,hr] at h1
  cases h1
  rw [lastN_at hx]
  exact ⟨by omega,h4,hw⟩
theorem evs_rd {D:Cx} {w:World} {g o:Nat} {L:List EvR} (hU:∀ w',Upd D.S D.w0 w'→Upd Non w w') (h:RawEv w (some ⟨g,o,none⟩) L):D.rd g o (L.length * 35)=some (zB6 evC L):=by
 have hvs:(zC1 (fun _=>⟨0,[],[],0,none⟩) (zB6 evC L)).map qz=zB6 evC L:=by
  clear h
  induction L with
  | nil=>rfl
  | cons x L ih =>
   have e:zB6 evC (x :: L)=evC x++zB6 evC L:=rfl
   rw [e]
   unfold zC1 at ih ⊢
   rw [List.map_append,List.map_append,ih]; rfl
 have hlen:(zC1 (fun _=>⟨0,[],[],0,none⟩) (zB6 evC L)).length=L.length * 35:=by rw [zC1,List.length_map]; exact zK4 zQ3 L
 have:=zY9 (C:=D) (vs:=zC1 (fun _=>⟨0,[],[],0,none⟩) (zB6 evC L)) (b:=g) (o:=o) (fun w' hu j v hv=>?_) hlen
 ·rw [this,hvs]
 ·have hj:j < L.length * 35:=by rw [← hlen]; exact (List.getElem?_eq_some_iff.1 hv).1
  obtain ⟨q,r,hr,rfl⟩:∃ q r,r < 35∧j=q * 35+r:=⟨j / 35,j % 35,by omega,by omega⟩
  obtain ⟨x,hx⟩:∃ x,L[q]?=some x:=⟨_,List.getElem?_eq_getElem (by omega)⟩
  obtain ⟨g',o',e,_,hc,_⟩:=(h.upd (hU w' hu)) q x hx
  cases e
  obtain ⟨s1,s2⟩:=zX2 zQ3 hx
  have:=hc r v (by
   rw [evA,List.getElem?_toArray]
   show (zC1 (fun _=>⟨0,[],[],0,none⟩) (evC x))[r]?=some v
   rw [← hv,s1,List.append_assoc,zC1,zC1,List.map_append,List.getElem?_append_right (by rw [List.length_map,s2]; omega),List.length_map,s2,Nat.add_sub_cancel_left,List.map_append,List.getElem?_append_left (by rw [List.length_map,zQ3]; exact hr)])
  rw [show o+q * 35+r=o+(q * 35+r) by omega] at this
  exact this
theorem ev_rd {D:Cx} {w:World} {g o k:Nat} {L:List EvR} {x:EvR} (hU:∀ w',Upd D.S D.w0 w'→Upd Non w w') (h:RawEv w (some ⟨g,o,none⟩) L) (hx:L[k]?=some x):D.rd g (o+k * 35+1) 1=some [.i .i64 x.e.now]:=by
 have:=zY9 (C:=D) (n:=1) (vs:=[.int .i64 x.e.now]) (b:=g) (o:=o+k * 35+1) (fun w' hu j v hv=>?_) rfl
 ·exact this
 ·obtain ⟨g',o',e,_,hc,_⟩:=(h.upd (hU w' hu)) k x hx
  cases e
  match j with
  | 0 =>
   simp only [List.getElem?_cons_zero,Option.some.injEq] at hv; subst hv
   exact hc 1 _ rfl
  | j+1=>simp at hv
theorem reflvR_h {C:Cx} {nE M N:Nat} {mk:Nat→Prop} {en en':List EN} {X:St} {now:Int} {mu:Bool} (hP:C.P=Tryz.prog) (hM:zD en M=some ⟨(33,0,rowQ X.items.length),zB6 itS X.items,mu⟩) (hl:X.items.length≤100000000)
  (hmk:∀ q,mk q ↔ q=N) (hn0:C.n0≤N) (hN:zD en' N=some (owE (zB1 X now).items)) (hq:∀ q,q ≠ N→zD en' q=zD en q) :
  zP3 C nE mk en en' 19 [.g [.rw M X.items.length,.i .u64 X.cas,.i .i64 X.flush],.c (.i .i64 now)] (.g [.rw N (zB1 X now).items.length,.i .u64 (zB1 X now).cas,.i .i64 (zB1 X now).flush]):=by
 refine own_h (L:=(zB1 X now).items) (fun v=>.agg #[v,.int .u64 (zB1 X now).cas,.int .i64 (zB1 X now).flush]) hP (fun args w=>Tryz.call19 args w) hmk hn0 hN hq (fun pr h=>zC8 h) (fun ρ=>rfl) ?_
 intro ρ pr w hw hwf
 have h0:wfs pr [.rw M X.items.length,.i .u64 X.cas,.i .i64 X.flush]:=hwf (.g _) (List.mem_cons_self ..)
 have lM:pr M:=h0 (.rw M _) (List.mem_cons_self ..)
 obtain ⟨a,c,hv,hr⟩:=zS9 (zW5 hw.hp hw.ho lM rfl hM)
 have:=rlive_w (X:=X) (c:=c) hr rfl hl now
 rw [← hv] at this
 refine this.mono ?_
 rintro z w'' ⟨⟨r,hr',rfl⟩,hb⟩
 exact ⟨_,rfl,zV6 hr',hb⟩
theorem ro_at {w:World} {v:Value} {xs:List It} (ho:OwnI 0 w v xs):∃ r:RE,At Non (fun _=>r) [roE xs] w∧zE9 r xs.length=v:=by
 obtain ⟨r,h1,h2,h3,h4,h5⟩:=own_re ho 0
 refine ⟨r,⟨?_,?_,?_,?_⟩,h1⟩
 ·intro q ty cells mu hq he
  obtain rfl:q=0:=by simp at hq; omega
  simp only [zD,Option.some.injEq,roE,EN.mk.injEq] at he
  obtain ⟨rfl,rfl,rfl⟩:=he
  refine ⟨fun hl=>?_,zF4 _ _,fun hd=>absurd (show (33:Nat)=zE8 from hd) (by decide),fun hn=>?_⟩
  ·rw [zC0]; exact h3 hl.2
  ·rw [(h4 hn).1]; rfl
 ·intro q ty cells mu hq he
  obtain rfl:q=0:=by simp at hq; omega
  simp only [zD,Option.some.injEq,roE,EN.mk.injEq] at he
  obtain ⟨rfl,rfl,rfl⟩:=he
  exact ⟨by rw [h5]; rfl,h2⟩
 ·intro q d hq hd _ _ _; simp at hq hd; omega
 ·intro q ty cells hq he
  obtain rfl:q=0:=by simp at hq; omega
  simp only [zD,Option.some.injEq,roE,EN.mk.injEq] at he
  exact absurd he.2.2 (by decide)
end Go.Proofs.YtfpeholdlkfmoaaGreatDoor
/- AuditLost, walked. Printed by gen_aulos.py. -/
namespace Go.Proofs.YtfpeholdlkfmoaaGreatDoor
set_option linter.unusedSimpArgs false
set_option linter.unusedVariables false
set_option maxHeartbeats 8000000
open Go.RowKit
set_option maxRecDepth 100000
section
variable {C:Cx} {nt:Nat} {sl:List (Nat × SV)} {en:List EN}
theorem Run_joinW {M:Type} {c:Code} {k:List KI} {I:M→(Nat→RE)→World→Prop} {slJ:M→List (Nat × SV)} {enJ:M→List EN} (tail:∀ m ρ w,(∃ a,Wt C.df ρ nt (slJ m) (enJ m) a w)→I m ρ w→Run (cxW C ρ w (enJ m)) k nt (slJ m) (enJ m))
  (use:(∀ s e,(∀ ρ a w,Rep C ρ nt s e a w→∃ m ρ',Wt C.df ρ' nt (slJ m) (enJ m) a w∧I m ρ' w)→Run C k nt s e)→Run C (.code c :: k) nt sl en):Run C (.code c :: k) nt sl en:=
 use fun _ _ h=>Run_W h tail
end
theorem ev_end {C:Cx} {ρ:Nat→RE} {w:World} {en:List EN} {L':List EvR} {cells:List SC} {N n:Nat} (hw:Hw C ρ (· < en.length) en w) (h0:zD en N=some (rwE 48 35 n cells)) (hd:zC1 ρ cells=zC1 ρ (zB6 evC L')) (hn:n ≠ 0) (hK:∀ x∈L',LosK w x) :
  ∃ c,(SC.rw N n).den ρ=.slice (some ⟨(ρ N).blk,0,none⟩) n c∧RawEv w (some ⟨(ρ N).blk,0,none⟩) L':=by
 have l0:N < en.length:=by rw [zA5] at h0; exact (List.getElem?_eq_some_iff.1 h0).1
 obtain ⟨_,_,hO⟩:=hw.ho N _ _ _ l0 h0
 rcases hO with ⟨h1,h2,_⟩ | ⟨_,h2,_⟩
 ·have hb:=(hw.hp N _ _ _ l0 h0).heap ⟨(by show ¬ (48:Nat)=zE8; decide),h1⟩
  rw [h2,List.nil_append,hd] at hb
  exact ⟨_,zF2 h1 _,RawEv.of hb hK⟩
 ·exact absurd h2 hn
theorem los_end {C:Cx} {ρ:Nat→RE} {w:World} {en:List EN} {i:Nat} {key:List UInt8} {now:Int} (hw:Hw C ρ (· < en.length) en w) (h0:zD en i=some ⟨(9,0,whole),[.s key],true⟩) :
  (SC.sl i 0 1 1).den ρ=.slice (some ⟨(ρ i).blk,0,none⟩) 1 1∧LosK w ⟨losE now key,some ⟨(ρ i).blk,0,none⟩,1,1⟩:=by
 obtain ⟨h1,h2⟩:=zM1 hw h0 (by simp) (by decide)
 refine ⟨by simp only [SC.den,h1,List.length_nil,Nat.zero_add],los_one (k:=key) (t:=9) (m:=(0,0)) (post:=[]) rfl ?_⟩
 simpa [zC1,SC.den] using h2
def losC (now:Int) (v:SC):List SC:=(evS (losE now []) none 0 0).set 34 v
theorem losC_wf {pr:Nat→Prop} {now:Int} {i:Nat} (h:pr i):wfs pr (losC now (.sl i 0 1 1)):=by
 intro z hz
 rcases List.mem_or_eq_of_mem_set (show z∈(evS (losE now []) none 0 0).set 34 (.sl i 0 1 1) from hz) with hz | rfl
 ·exact zR8 pr _ _ _ _ z hz
 ·exact h
theorem losC_den {ρ:Nat→RE} {now:Int} {key:List UInt8} {v:SC} {g:Nat} (hv:v.den ρ=.slice (some ⟨g,0,none⟩) 1 1) (L:List EvR):zC1 ρ (zB6 evC L++losC now v)=zC1 ρ (zB6 evC (L++[⟨losE now key,some ⟨g,0,none⟩,1,1⟩])):=by
 rw [zH3,zI3]
 unfold zC1
 rw [List.map_append,List.map_append]
 congr 1
 show ((evS (losE now []) none 0 0).set 34 v).map (SC.den ρ)=(evS (losE now key) (some ⟨g,0,none⟩) 1 1).map (SC.den ρ)
 rw [List.map_set,hv]; rfl
structure OneI (w0:World) (L:List EvR) (a:Option Addr) (L1:List EvR) (now:Int) (key:List UInt8) (a1:Option Addr) (w:World):Prop where
 up:Upd Non w0 w
 raw:RawEv w a L
 g:∃ g,a1=some ⟨g,0,none⟩
 raw1:RawEv w a1 L1
 eq:∃ g,L1=L++[⟨losE now key,some ⟨g,0,none⟩,1,1⟩]
theorem RawEv.los {w:World} {a:Option Addr} {L:List EvR} (h:RawEv w a L):∀ x∈L,LosK w x:=fun x hx=>by
 obtain ⟨k,hk⟩:=List.mem_iff_getElem?.1 hx
 obtain ⟨_,_,_,_,_,h1,h2,h3,h4⟩:=h k x hk
 exact ⟨h1,h2,h3,h4⟩
theorem one_end {C:Cx} {ρ:Nat→RE} {w0 w:World} {en:List EN} {L:List EvR} {a:Option Addr} {key:List UInt8} {now:Int} {N i:Nat} (hup:Upd Non w0 w) (hr:RawEv w a L) (hw:Hw C ρ (· < en.length) en w) (h0:zD en N=some (rwE 48 35 (L.length+1) (zB6 evC L++losC now (.sl i 0 1 1)))) (hi:zD en i=some ⟨(9,0,whole),[.s key],true⟩) :
  ∃ c,(SC.rw N (L.length+1)).den ρ=.slice (some ⟨(ρ N).blk,0,none⟩) (L.length+1) c∧OneI w0 L a (L++[⟨losE now key,some ⟨(ρ i).blk,0,none⟩,1,1⟩]) now key (some ⟨(ρ N).blk,0,none⟩) w:=by
 obtain ⟨h1,h2⟩:=los_end (now:=now) hw hi
 obtain ⟨c,h3,h4⟩:=ev_end hw h0 (losC_den (key:=key) h1 L) (Nat.succ_ne_zero _) (fun x hx=>by
  rcases List.mem_append.1 hx with hx | hx
  ·exact hr.los x hx
  ·simp only [List.mem_singleton] at hx; subst hx; exact h2)
 exact ⟨c,h3,⟨hup,hr,⟨_,rfl⟩,h4,⟨_,rfl⟩⟩⟩
theorem infoEvL:(Tryz.prog.info? 48).map (fun i=>(i.zero.map (fun v=>v.cells.size),i.size,i.bytes))=some (some 35,35,296):=by kernel_rfl
def loV (n:Nat) (r1 r2:Int):Option Addr→Nat→Int:=fun _ k=>if k=n then r1 else r2
theorem aulos_w {w:World} {A Bs:Option Addr} {nl lc ns sc:Nat} {cs:Nat→Cd} (key:List UInt8) (hCm:CmdsAt w A nl cs) (hSt:StepsAt w Bs ns) (hnl:nl≤9223372036854775807) (hns:ns≤9223372036854775807) (hE:Env w) :
  Calls Tryz.prog 6 #[.slice A nl lc,.slice Bs ns sc,.string ⟨key.toArray⟩] w fun e w'=>e=.returned (.bool true)∧Below w.heap.size w w':=by
 refine zB8 Tryz.func6 rfl kp6 (S:=Non) (ρ:=fun _=>⟨0,[],[],0,none⟩) (en:=[]) [.c (.v (.slice A nl lc)),.c (.v (.slice Bs ns sc)),.c (.s key)] Tryz.ntmps6 (At.nil _ _ _) (by intro y hy; simp only [List.mem_cons,List.not_mem_nil,or_false] at hy; rcases hy with rfl | rfl | rfl <;> trivial) (by simp) ?_
 intro C hC hP hk
 have hEC:=envC_of hC hE
 have hn0:C.n0=0:=by rw [hC]; rfl
 have hctr:zE4 C ashC:=ashC_ok hP hEC
 (refine zB0 hctr (rs:=res6) true 300 _ _ _ ?_; simp (maxSteps:=1000000) only [VT,qH,qI,qK,qO,ev,qw,qy,qz,zI,zJ,zK,↓reduceIte,reduceCtorEq,Nat.reduceEqDiff,Nat.reduceAdd,Nat.reduceLT,zP,zQ,zR,zt,hk,kp6,ashC,Nat.reduceAdd])
 have hCx:Ctx C Tryz.prog Tryz.f6 (fun e w'=>e=.returned (.bool true)∧Below w.heap.size w w'):=by rw [hC]; exact zL1
 have hU0:∀ w',Upd C.S C.w0 w'→Upd Non w w':=by rw [hC]; exact fun w' hu=>hu
 refine Run_callWG (M:=(ToI 900) × Option Addr × Nat) (I:=fun m _ w'=>TolI w 900 m.1 m.2.1 w') (sl':=fun m=>[(19,.c (.v (.slice m.2.1 m.1.L.length m.2.2))),(7,.c (.b true)),(2,.c (.s key))]) (en':=fun _=>[]) rfl rfl (fun args w=>by rw [hP]; exact Tryz.call16 args w) ?_ ?_
 ·intro ρ1 a1 w1 hr1
  have hu:=hU0 w1 hr1.hw.up
  rw [hP]
  refine (told_w (w:=w1) 900 (hCm.up hu) (hSt.up hu) hnl hns (hE.below hu.to_below)).mono ?_
  rintro z w2 ⟨r,t,rfl,hi,hu2,hO,hK⟩
  obtain ⟨a,c,hv,hR⟩:=raw_row hO (fun x hx=>(hK x hx).1)
  rw [hv]
  exact ⟨(t,a,c),ρ1,_,rfl,zS6 (v0:=.c (.v (.slice a t.L.length c))) (s:=_) hr1 (At.nil (fun _=>True) ρ1 w2) (by decide) trivial ⟨⟨_,rfl,rfl,trivial⟩,⟨_,rfl,rfl,trivial⟩,trivial⟩,hi,hu.trans hu2 (fun _ _ h=>h),hR⟩
 rintro ⟨t,a,c⟩ ρ1 w1 _ hI
 have hI:TolI w 900 t a w1:=hI
 obtain ⟨G,hG⟩:∃ G,G=cxW C ρ1 w1 []:=⟨_,rfl⟩
 show Run (cxW C ρ1 w1 []) _ 81 [(19,.c (.v (.slice a t.L.length c))),(7,.c (.b true)),(2,.c (.s key))] []
 rw [← hG]
 have hP0:=hP; have hk0:=hk
 have hP:G.P=Tryz.prog:=by rw [hG]; exact hP0
 have hk:G.kp=kp6:=by rw [hG]; exact hk0
 have hCxG:Ctx G Tryz.prog Tryz.f6 (fun e w'=>e=.returned (.bool true)∧Below w.heap.size w w'):=by rw [hG]; exact hCx.cxW _ _ _
 have hnG:G.n0=0:=by rw [hG]; rfl
 have hUG:∀ w',Upd G.S G.w0 w'→Upd Non w1 w':=by
  rw [hG]
  exact fun w' hu=>hu.mono fun q _ hq=>absurd hq no_wr
 have hctr:zE4 G noC:=zE6 hP
 have hlen:=t.len hI.i
 obtain ⟨L,hL⟩:∃ L,t.L=L:=⟨_,rfl⟩
 obtain ⟨now9,tn9,hrun9,_⟩:=t.h.run
 have hcd:=t.cd
 have hraw:=hI.raw
 have hupI:=hI.up
 rw [hL] at hlen hrun9 hcd hraw ⊢
 obtain ⟨W,hW⟩:∃ W:Au,W=⟨t.X,now9,tn9,900⟩:=⟨_,rfl⟩
 rw [← hW] at hrun9
 obtain ⟨hlo,hhi,hwell⟩:=last_run hrun9 hcd
 have hnow1:=hwell.now
 (refine zB0 hctr (rs:=res6) true 13 _ _ _ ?_; simp (maxSteps:=1000000) only [VT,qH,qI,qK,qN,qO,qR,qS,qe,ev,qy,qz,zI,zJ,zM,↓reduceIte,reduceCtorEq,Nat.reduceEqDiff,Nat.reduceLT,zP,zQ,zR,hP,hk,kp6])
 refine Run_join (κ:=Unit) (fun _=>[(9,.c (.i .i64 (lastN L))),(8,.c (.v (.slice a L.length c))),(7,.c (.b true)),(2,.c (.s key))]) (fun _=>[]) (fun _=>?_) fun use=>?_
 rotate_left
 ·by_cases hz:L.length=0
  ·have z0:decide ((0:Int) < (L.length:Int))=false:=decide_eq_false (by omega)
   (refine zB0 hctr (rs:=res6) true 2 _ _ _ ?_; simp (maxSteps:=1000000) only [VT,jg,ev,qy,↓reduceIte,zW,res6,z0])
   have hl9:lastN L=1:=by rw [List.eq_nil_of_length_eq_zero hz]; rfl
   rw [hl9] at use
   exact use () _ (zH6 ⟨rfl,rfl,rfl,rfl,trivial⟩)
  ·have z0:decide ((0:Int) < (L.length:Int))=true:=decide_eq_true (by omega)
   obtain ⟨x,hx⟩:∃ x,L[L.length - 1]?=some x:=⟨_,List.getElem?_eq_getElem (by omega)⟩
   obtain ⟨g,o9,ha,_⟩:=hraw _ x hx
   rw [ha]
   have w3:IntKind.i64.wrap ((L.length:Int) - 1)=((L.length - 1:Nat):Int):=by rw [IntWalk.i64_in _ (by omega)]; omega
   have p2:(0:Int)≤((L.length - 1:Nat):Int):=by omega
   have p3:((L.length - 1:Nat):Int) < (L.length:Int):=by omega
   have hrd:=ev_rd hUG (by rw [ha] at hraw; exact hraw) hx
   (refine zB0 hctr (rs:=res6) true 11 _ _ _ ?_; simp (maxSteps:=1000000) only [VT,jf,qH,qI,qK,qN,qO,qP,qR,qS,qV,qX,qe,ev,qy,qz,zD,zI,zJ,zM,↓reduceIte,reduceCtorEq,Nat.reduceEqDiff,Nat.reduceLT,zP,zQ,zR,zT,zV,zh,hP,hk,res6,kp6,z0,w3,p2,p3,hrd])
   rw [ha,lastN_at hx] at use
   exact use () _ (zH6 ⟨rfl,rfl,rfl,rfl,trivial⟩)
 obtain ⟨nw,hnw⟩:∃ nw,lastN L=nw:=⟨_,rfl⟩
 rw [hnw] at hlo hhi ⊢
 (refine zB0 hctr (rs:=res6) true 300 _ _ _ ?_; simp (maxSteps:=1000000) only [VT,qH,qI,qK,qO,ev,qw,qy,qz,↓reduceIte,Nat.reduceEqDiff,Nat.reduceLT,zR,noC])
 refine Run_callWG (M:=RE) (I:=fun _ _ w'=>Upd Non w w'∧RawEv w' a L) (sl':=fun _=>[(31,.g [.rw 0 W.X.items.length,.i .u64 W.X.cas,.i .i64 W.X.flush]),(9,.c (.i .i64 nw)),(8,.c (.v (.slice a L.length c))),(7,.c (.b true)),(2,.c (.s key))]) (en':=fun _=>[roE W.X.items]) rfl rfl (fun args w=>by rw [hP]; exact Tryz.call17 args w) ?_ ?_
 ·intro ρ2 a2 w2 hr2
  have hu:=hUG w2 hr2.hw.up
  rw [hP]
  have hev:Evs w2 a L.length L 900:=Evs.of (hraw.upd hu) rfl (by omega) hcd (hE.below (hupI.trans hu (fun _ _ h=>h)).to_below)
  refine (replay_w hev).mono ?_
  rintro z w3 ⟨v,rfl,hO,hu3⟩
  rw [hrun9] at hO ⊢
  obtain ⟨r,hat,hv⟩:=ro_at hO
  refine ⟨r,fun _=>r,_,rfl,?_,(hupI.trans hu (fun _ _ h=>h)).trans hu3 (fun _ _ h=>h),(hraw.upd hu).upd hu3⟩
  rw [← hv]
  exact zS6 (v0:=.g [.rw 0 W.X.items.length,.i .u64 W.X.cas,.i .i64 W.X.flush]) (s:=_) hr2 hat (by decide) (zC8 (by show 0 < 1; decide)) ⟨⟨_,rfl,rfl,trivial⟩,⟨_,rfl,rfl,trivial⟩,⟨_,rfl,rfl,trivial⟩,⟨_,rfl,rfl,trivial⟩,trivial⟩
 rintro r2 ρ2 w2 _ ⟨hup2,hraw2⟩
 obtain ⟨H,hH⟩:∃ H,H=cxW G ρ2 w2 [roE W.X.items]:=⟨_,rfl⟩
 show Run (cxW G ρ2 w2 [roE W.X.items]) _ 81 [(31,.g [.rw 0 W.X.items.length,.i .u64 W.X.cas,.i .i64 W.X.flush]),(9,.c (.i .i64 nw)),(8,.c (.v (.slice a L.length c))),(7,.c (.b true)),(2,.c (.s key))] [roE W.X.items]
 rw [← hH]
 have hP0:=hP; have hk0:=hk
 have hP:H.P=Tryz.prog:=by rw [hH]; exact hP0
 have hk:H.kp=kp6:=by rw [hH]; exact hk0
 have hCxH:Ctx H Tryz.prog Tryz.f6 (fun e w'=>e=.returned (.bool true)∧Below w.heap.size w w'):=by rw [hH]; exact hCxG.cxW _ _ _
 have hnH:H.n0=1:=by rw [hH]; rfl
 have hctr:zE4 H noC:=zE6 hP
 have hXs:Sorted W.X.items:=hwell.nice.sorted
 have hXl:W.X.items.length≤100000000:=by have:=hwell.nice.len; omega
 (refine zB0 hctr (rs:=res6) true 300 _ _ _ ?_; simp (maxSteps:=1000000) only [VT,qH,qI,qJ,qK,qO,qP,q0t,qu,qv,ev,qw,qy,zA,zB,zC,zD,zE,zF,zG,zI,zJ,zM,↓reduceIte,reduceCtorEq,Nat.reduceEqDiff,Nat.reduceAdd,Nat.reduceLT,zP,zQ,zR,zt,hP,hk,kp6,noC,Nat.reduceAdd,roE])
 obtain ⟨V,hV⟩:∃ V,V=zB1 W.X nw:=⟨_,rfl⟩
 have hVs:Sorted V.items:=by rw [hV]; exact zD6 _ hXs
 have hVl:V.items.length≤100000000:=by
  have:=(hwell.nice.live nw).len
  rw [← hV] at this
  omega
 refine zE5 rfl (.g [.rw 2 V.items.length,.i .u64 V.cas,.i .i64 V.flush]) (zF _ (owE V.items)) (by rw [hV]; exact reflvR_h (M:=0) (N:=2) (mu:=false) hP rfl hXl (fun q=>by rw [zC7]; show (2≤q∧q < 2+1) ↔ q=2; omega) (by rw [hnH]; decide) rfl (fun q h=>zC3 h)) (by rw [zC7]; omega) (by simp) ?_
 (refine zB0 hctr (rs:=res6) true 300 _ _ _ ?_; simp (maxSteps:=1000000) only [VT,qH,qI,qK,qO,ev,qw,qy,zF,↓reduceIte,Nat.reduceEqDiff,Nat.reduceLT,zR,jN,noC])
 refine zE5 rfl (.t [.g [.rw 3 (zG6 V key).length,.i .u64 V.cas,.i .i64 V.flush],.c (.b (isF V.items key))]) (zF _ (owE (zG6 V key))) (dropc_h (M:=2) (N:=3) key hP hVs hVl rfl rfl (fun q=>by rw [zC7]; show (3≤q∧q < 3+1) ↔ q=3; omega) (by rw [hnH]; decide) rfl (fun q h=>zC3 h)) (by rw [zC7]; omega) (by simp) ?_
 (refine zB0 hctr (rs:=res6) true 8 _ _ _ ?_; simp (maxSteps:=1000000) only [VT,qH,qI,qJ,qK,qO,qh,q0t,qu,qv,ev,qy,zC,zD,zE,zF,zG,zI,zJ,TE.sv,zM,↓reduceIte,reduceCtorEq,Nat.reduceEqDiff,Nat.reduceAdd,Nat.reduceLT,zP,zQ,zR,zt,jN,hP,hk,kp6,Nat.reduceAdd])
 obtain ⟨was,hwas⟩:∃ was,isF V.items key=was:=⟨_,rfl⟩
 rw [hwas]
 refine Run_W (M:=Unit) (I:=fun _ _ w'=>Upd Non w w'∧RawEv w' a L) (sl':=fun _=>[(12,.c (.b was)),(9,.c (.i .i64 nw)),(8,.c (.v (.slice a L.length c))),(7,.c (.b true)),(2,.c (.s key))]) (en':=fun _=>[]) ?_ ?_
 ·intro ρ' a' w' hr'
  have hup:=hr'.hw.up
  have hu:Upd Non w2 w':=by
   rw [hH] at hup
   exact hup.mono fun q _ hq=>by
    obtain ⟨c9,t9,cells9,h9,_⟩:=hq
    match c9 with
    | 0=>simp [zD,roE] at h9
    | c9+1=>simp [zD] at h9
  exact ⟨(),fun i=>ρ' (([]:List Nat).getD i 0),hr'.wt.pick [] rfl (fun i hi=>nomatch hi) (fun i t cells mu hi=>by simp [zD] at hi) (fun d v' hd=>zM7 (ρ:=ρ') (ρ':=fun i=>ρ' (([]:List Nat).getD i 0)) (n:=0) (sl:=_) (s:=[(12,.c (.b was)),(9,.c (.i .i64 nw)),(8,.c (.v (.slice a L.length c))),(7,.c (.b true)),(2,.c (.s key))]) ⟨⟨_,rfl,rfl,trivial⟩,⟨_,rfl,rfl,trivial⟩,⟨_,rfl,rfl,trivial⟩,⟨_,rfl,rfl,trivial⟩,⟨_,rfl,rfl,trivial⟩,trivial⟩ d v' hd),hup2.trans hu (fun _ _ h=>h),hraw2.upd hu⟩
 rintro _ ρ3 w3 _ ⟨hup3,hraw3⟩
 obtain ⟨K,hK⟩:∃ K,K=cxW H ρ3 w3 []:=⟨_,rfl⟩
 show Run (cxW H ρ3 w3 []) _ 81 [(12,.c (.b was)),(9,.c (.i .i64 nw)),(8,.c (.v (.slice a L.length c))),(7,.c (.b true)),(2,.c (.s key))] []
 rw [← hK]
 have hP0:=hP; have hk0:=hk
 have hP:K.P=Tryz.prog:=by rw [hK]; exact hP0
 have hk:K.kp=kp6:=by rw [hK]; exact hk0
 have hCxK:Ctx K Tryz.prog Tryz.f6 (fun e w'=>e=.returned (.bool true)∧Below w.heap.size w w'):=by rw [hK]; exact hCxH.cxW _ _ _
 have hnK:K.n0=0:=by rw [hK]; rfl
 have hUK:∀ w',Upd K.S K.w0 w'→Upd Non w3 w':=by
  rw [hK]
  exact fun w' hu=>hu.mono fun q _ hq=>absurd hq no_wr
 have hctr:zE4 K noC:=zE6 hP
 obtain ⟨ie,hie,hze,hze1,hze2⟩:∃ i,Tryz.prog.info? 48=some i∧i.zero.map (fun v=>v.cells.size)=some 35∧i.size=35∧i.bytes=296:=by
  obtain ⟨i,h1,h2⟩:=Option.map_eq_some_iff.1 infoEvL
  simp only [Prod.mk.injEq] at h2
  exact ⟨i,h1,h2.1,h2.2.1,h2.2.2⟩
 obtain ⟨zv,hze0,hze3⟩:=Option.map_eq_some_iff.1 hze
 refine Run_joinW (M:=(Option Addr × List EvR) × Nat) (I:=fun m _ w'=>OneI w L a m.1.2 nw key m.1.1 w') (slJ:=fun m=>[(13,.c (.v (.slice m.1.1 (L.length+1) m.2))),(12,.c (.b was)),(9,.c (.i .i64 nw)),(8,.c (.v (.slice a L.length c))),(7,.c (.b true)),(2,.c (.s key))]) (enJ:=fun _=>[]) ?_ fun use=>?_
 rotate_left
 ·have hund:K.P.underlying 43=some (.slice 48):=by rw [hP]; exact Tryz.underlying43
  have hiC:K.P.info? 48=some ie:=by rw [hP]; exact hie
  have X4:(4:Nat)=4:=rfl
  (refine zB0 hctr (rs:=res6) true 1 _ _ _ ?_; simp (maxSteps:=1000000) only [VT])
  refine build0_op (z:=35) (i:=ie) hund hiC (by decide) (by rw [hnK]; exact Nat.zero_le _) rfl (by simp) ?_
  (refine zB0 hctr (rs:=res6) true 1 _ _ _ ?_; simp (maxSteps:=1000000) only [VT,qH,qI,qK,qO,ev,qy,zF,zG,↓reduceIte,Nat.reduceEqDiff,Nat.reduceLT,zR,zl,rwE,jN,rwE])
  by_cases hz:L.length=0
  ·have hLn:L=[]:=List.eq_nil_of_length_eq_zero hz
   subst hLn
   refine append0_opT (X:=.rw 0 0) hund hiC rfl (by rw [hz]; rfl) (fun ρ=>by
    cases hx:(ρ 0).nl with
    | none=>exact ⟨_,_,_,zF2 hx 0,Nat.zero_le _⟩
    | some p=>exact ⟨_,_,_,zG4 hx 0,Nat.zero_le _⟩) (by show 0 < 1; decide) (by simp) ?_
   (refine zB0 hctr (rs:=res6) true 300 _ _ _ ?_; simp (maxSteps:=1000000) only [VT,qA,qB,qC,qD,qH,qI,qK,qN,qO,qf,qg,q0t,ev,qy,qz,zC,zD,zF,zG,zM,↓reduceIte,Nat.reduceEqDiff,Nat.reduceAdd,Nat.reduceLT,Nat.reduceLeDiff,zR,zT,zk,zl,zt,jN,hP,Nat.reduceAdd,Nat.reduceMul])
   refine zP0 (n:=0) (m:=1) (z:=35) (bts:=296) (cells:=zB6 evC []) (news:=losC nw (.sl 1 0 1 1)) (o:=some 0) (X:=.rw 0 (0)) (Y:=.sl 2 0 1 1) hund hiC hze0 hze1 hze2 hze3 (by decide) (by decide) (.some rfl) rfl rfl (zN7 (c:=2) (o:=0) (L:=35) rfl rfl) rfl rfl (losC_wf (by show 1 < 3; decide)) (by omega) (by omega) (by rw [hnK]; exact Nat.zero_le _) rfl (by simp) ?_
   (refine zB0 hctr (rs:=res6) true 2 _ _ _ ?_; simp (maxSteps:=1000000) only [VT,qH,qI,qK,qO,ev,qy,zD,zE,zF,zG,zI,zJ,↓reduceIte,reduceCtorEq,Nat.reduceEqDiff,Nat.reduceAdd,Nat.reduceLT,zP,zQ,zR,zt,zF7,zA4,rwE,jN,hk,kp6,Nat.reduceAdd,rwE,zF7,zA4])
   refine use _ _ fun ρ' a' w' hr'=>?_
   have hu:=hUK w' hr'.hw.up
   obtain ⟨c9,q1,q2⟩:=one_end (N:=3) (i:=1) (key:=key) (now:=nw) (hup3.trans hu (fun _ _ h=>h)) (hraw3.upd hu) hr'.hw rfl rfl
   exact ⟨((_,_),c9),fun i=>ρ' (([]:List Nat).getD i 0),hr'.wt.pick [] rfl (fun i hi=>nomatch hi) (fun i t cells mu hi=>by simp [zD] at hi) (fun d v' hd=>zM7 (ρ:=ρ') (ρ':=fun i=>ρ' (([]:List Nat).getD i 0)) (n:=0) (sl:=_) (s:=(13,.c (.v (.slice (some ⟨(ρ' 3).blk,0,none⟩) (0+1) c9))) :: [(12,.c (.b was)),(9,.c (.i .i64 nw)),(8,.c (.v (.slice a 0 c))),(7,.c (.b true)),(2,.c (.s key))]) ⟨⟨_,rfl,(by exact q1.symm),trivial⟩,⟨_,rfl,rfl,trivial⟩,⟨_,rfl,rfl,trivial⟩,⟨_,rfl,rfl,trivial⟩,⟨_,rfl,rfl,trivial⟩,⟨_,rfl,rfl,trivial⟩,trivial⟩ d v' hd),q2⟩
  ·obtain ⟨x,hx⟩:∃ x,L[0]?=some x:=⟨_,List.getElem?_eq_getElem (by omega)⟩
   obtain ⟨g,o9,ha,_⟩:=hraw3 _ x hx
   subst ha
   have hrd:=evs_rd hUK hraw3
   refine zM2 (n:=0) (m:=L.length) (z:=35) (bts:=296) (cells:=[]) (news:=zB6 evC L) (o:=some 0) (X:=.rw 0 0) (Y:=.v (.slice (some ⟨g,o9,none⟩) L.length c)) hund hiC hze0 hze1 hze2 hze3 (by decide) (by decide) (.some rfl) rfl rfl (src_raw hrd) (zK4 zQ3 L) (evC_ones L) (fun pr=>zI6 pr L) (by omega) (by omega) (by rw [hnK]; exact Nat.zero_le _) rfl (by simp) ?_
   (refine zB0 hctr (rs:=res6) true 300 _ _ _ ?_; simp (maxSteps:=1000000) only [VT,qA,qB,qC,qD,qH,qI,qK,qN,qO,qf,qg,q0t,ev,qy,qz,zC,zD,zE,zF,zG,zM,↓reduceIte,Nat.reduceEqDiff,Nat.reduceAdd,Nat.reduceLT,Nat.reduceLeDiff,zR,zT,zk,zl,zt,zF7,zA4,rwE,jN,hP,Nat.reduceAdd,Nat.reduceMul,rwE,zF7,zA4])
   refine zP0 (n:=L.length) (m:=1) (z:=35) (bts:=296) (cells:=zB6 evC L) (news:=losC nw (.sl 2 0 1 1)) (o:=some 1) (X:=.rw 1 (L.length)) (Y:=.sl 3 0 1 1) hund hiC hze0 hze1 hze2 hze3 (by decide) (by decide) (.some rfl) rfl rfl (zN7 (c:=3) (o:=0) (L:=35) rfl rfl) rfl rfl (losC_wf (by show 2 < 4; decide)) (by omega) (by omega) (by rw [hnK]; exact Nat.zero_le _) rfl (by simp) ?_
   (refine zB0 hctr (rs:=res6) true 2 _ _ _ ?_; simp (maxSteps:=1000000) only [VT,qH,qI,qK,qO,ev,qy,zD,zE,zF,zG,zI,zJ,↓reduceIte,reduceCtorEq,Nat.reduceEqDiff,Nat.reduceAdd,Nat.reduceLT,zP,zQ,zR,zt,zF7,zA4,rwE,jN,hk,kp6,Nat.reduceAdd,rwE,zF7,zA4])
   refine use _ _ fun ρ' a' w' hr'=>?_
   have hu:=hUK w' hr'.hw.up
   obtain ⟨c9,q1,q2⟩:=one_end (N:=4) (i:=2) (key:=key) (now:=nw) (hup3.trans hu (fun _ _ h=>h)) (hraw3.upd hu) hr'.hw rfl rfl
   exact ⟨((_,_),c9),fun i=>ρ' (([]:List Nat).getD i 0),hr'.wt.pick [] rfl (fun i hi=>nomatch hi) (fun i t cells mu hi=>by simp [zD] at hi) (fun d v' hd=>zM7 (ρ:=ρ') (ρ':=fun i=>ρ' (([]:List Nat).getD i 0)) (n:=0) (sl:=_) (s:=(13,.c (.v (.slice (some ⟨(ρ' 4).blk,0,none⟩) (L.length+1) c9))) :: [(12,.c (.b was)),(9,.c (.i .i64 nw)),(8,.c (.v (.slice (some ⟨g,o9,none⟩) L.length c))),(7,.c (.b true)),(2,.c (.s key))]) ⟨⟨_,rfl,(by exact q1.symm),trivial⟩,⟨_,rfl,rfl,trivial⟩,⟨_,rfl,rfl,trivial⟩,⟨_,rfl,rfl,trivial⟩,⟨_,rfl,rfl,trivial⟩,⟨_,rfl,rfl,trivial⟩,trivial⟩ d v' hd),q2⟩
 rintro ⟨⟨a1,L1⟩,c1⟩ ρ4 w4 _ hO
 have hO:OneI w L a L1 nw key a1 w4:=hO
 obtain ⟨g1,hg1⟩:=hO.g
 subst hg1
 obtain ⟨Q,hQ⟩:∃ Q,Q=cxW K ρ4 w4 []:=⟨_,rfl⟩
 show Run (cxW K ρ4 w4 []) _ 81 [(13,.c (.v (.slice (some ⟨g1,0,none⟩) (L.length+1) c1))),(12,.c (.b was)),(9,.c (.i .i64 nw)),(8,.c (.v (.slice a L.length c))),(7,.c (.b true)),(2,.c (.s key))] []
 rw [← hQ]
 have hP0:=hP; have hk0:=hk
 have hP:Q.P=Tryz.prog:=by rw [hQ]; exact hP0
 have hk:Q.kp=kp6:=by rw [hQ]; exact hk0
 have hCxQ:Ctx Q Tryz.prog Tryz.f6 (fun e w'=>e=.returned (.bool true)∧Below w.heap.size w w'):=by rw [hQ]; exact hCxK.cxW _ _ _
 have hnQ:Q.n0=0:=by rw [hQ]; rfl
 have hUQ:∀ w',Upd Q.S Q.w0 w'→Upd Non w4 w':=by
  rw [hQ]
  exact fun w' hu=>hu.mono fun q _ hq=>absurd hq no_wr
 have hctr:zE4 Q noC:=zE6 hP
 have hl1:L1.length=L.length+1:=by obtain ⟨g9,e9⟩:=hO.eq; rw [e9,List.length_append]; rfl
 have hup4:=hO.up
 have hrawa:=hO.raw
 have hraw4:=hO.raw1
 have hund:Q.P.underlying 43=some (.slice 48):=by rw [hP]; exact Tryz.underlying43
 have hiC:Q.P.info? 48=some ie:=by rw [hP]; exact hie
 (refine zB0 hctr (rs:=res6) true 2 _ _ _ ?_; simp (maxSteps:=1000000) only [VT])
 refine build0_op (z:=35) (i:=ie) hund hiC (by decide) (by rw [hnQ]; exact Nat.zero_le _) rfl (by simp) ?_
 (refine zB0 hctr (rs:=res6) true 1 _ _ _ ?_; simp (maxSteps:=1000000) only [VT,qH,qI,qK,qO,ev,qy,zF,zG,↓reduceIte,Nat.reduceEqDiff,Nat.reduceLT,zR,zl,rwE,jN,rwE])
 have hrd:=evs_rd hUQ hraw4
 refine zM2 (n:=0) (m:=L.length+1) (z:=35) (bts:=296) (cells:=[]) (news:=zB6 evC L1) (o:=some 0) (X:=.rw 0 0) (Y:=.v (.slice (some ⟨g1,0,none⟩) (L.length+1) c1)) hund hiC hze0 hze1 hze2 hze3 (by decide) (by decide) (.some rfl) rfl rfl (src_raw hrd) (by rw [zK4 zQ3 L1,hl1]) (evC_ones L1) (fun pr=>zI6 pr L1) (by omega) (by omega) (by rw [hnQ]; exact Nat.zero_le _) rfl (by simp) ?_
 (refine zB0 hctr (rs:=res6) true 300 _ _ _ ?_; simp (maxSteps:=1000000) only [VT,qA,qB,qC,qD,qH,qI,qK,qN,qO,qf,qg,q0t,ev,qy,qz,zC,zD,zE,zF,zG,zM,↓reduceIte,Nat.reduceEqDiff,Nat.reduceAdd,Nat.reduceLT,Nat.reduceLeDiff,zR,zT,zk,zl,zt,zF7,zA4,rwE,jN,hP,Nat.reduceAdd,Nat.reduceMul,rwE,zF7,zA4])
 refine zP0 (n:=L.length+1) (m:=1) (z:=35) (bts:=296) (cells:=zB6 evC L1) (news:=losC nw (.sl 2 0 1 1)) (o:=some 1) (X:=.rw 1 (L.length+1)) (Y:=.sl 3 0 1 1) hund hiC hze0 hze1 hze2 hze3 (by decide) (by decide) (.some rfl) rfl rfl (zN7 (c:=3) (o:=0) (L:=35) rfl rfl) rfl rfl (losC_wf (by show 2 < 4; decide)) (by omega) (by omega) (by rw [hnQ]; exact Nat.zero_le _) rfl (by simp) ?_
 (refine zB0 hctr (rs:=res6) true 2 _ _ _ ?_; simp (maxSteps:=1000000) only [VT,qH,qI,qK,qO,ev,qy,zD,zE,zF,zG,zI,zJ,↓reduceIte,reduceCtorEq,Nat.reduceEqDiff,Nat.reduceAdd,Nat.reduceLT,zP,zQ,zR,zt,zF7,zA4,rwE,jN,hk,kp6,Nat.reduceAdd,rwE,zF7,zA4])
 refine Run_W (M:=Nat × List EvR × Nat) (I:=fun m _ w'=>OneI w L1 (some ⟨g1,0,none⟩) m.2.1 nw key (some ⟨m.1,0,none⟩) w') (sl':=fun m=>[(14,.c (.v (.slice (some ⟨m.1,0,none⟩) (L.length+1+1) m.2.2))),(13,.c (.v (.slice (some ⟨g1,0,none⟩) (L.length+1) c1))),(12,.c (.b was)),(9,.c (.i .i64 nw)),(8,.c (.v (.slice a L.length c))),(7,.c (.b true)),(2,.c (.s key))]) (en':=fun _=>[]) ?_ ?_
 ·intro ρ' a' w' hr'
  have hu:=hUQ w' hr'.hw.up
  obtain ⟨c9,q1,q2⟩:=one_end (N:=4) (i:=2) (key:=key) (now:=nw) (hup4.trans hu (fun _ _ h=>h)) (hraw4.upd hu) hr'.hw (by rw [hl1]; rfl) rfl
  rw [hl1] at q1
  exact ⟨((ρ' 4).blk,_,c9),fun i=>ρ' (([]:List Nat).getD i 0),hr'.wt.pick [] rfl (fun i hi=>nomatch hi) (fun i t cells mu hi=>by simp [zD] at hi) (fun d v' hd=>zM7 (ρ:=ρ') (ρ':=fun i=>ρ' (([]:List Nat).getD i 0)) (n:=0) (sl:=_) (s:=(14,.c (.v (.slice (some ⟨(ρ' 4).blk,0,none⟩) (L.length+1+1) c9))) :: [(13,.c (.v (.slice (some ⟨g1,0,none⟩) (L.length+1) c1))),(12,.c (.b was)),(9,.c (.i .i64 nw)),(8,.c (.v (.slice a L.length c))),(7,.c (.b true)),(2,.c (.s key))]) ⟨⟨_,rfl,(by exact q1.symm),trivial⟩,⟨_,rfl,rfl,trivial⟩,⟨_,rfl,rfl,trivial⟩,⟨_,rfl,rfl,trivial⟩,⟨_,rfl,rfl,trivial⟩,⟨_,rfl,rfl,trivial⟩,⟨_,rfl,rfl,trivial⟩,trivial⟩ d v' hd),q2⟩
 rintro ⟨g2,L2,c2⟩ ρ5 w5 _ hO5
 have hO5:OneI w L1 (some ⟨g1,0,none⟩) L2 nw key (some ⟨g2,0,none⟩) w5:=hO5
 obtain ⟨V5,hV5⟩:∃ V5,V5=cxW Q ρ5 w5 []:=⟨_,rfl⟩
 show Run (cxW Q ρ5 w5 []) _ 81 [(14,.c (.v (.slice (some ⟨g2,0,none⟩) (L.length+1+1) c2))),(13,.c (.v (.slice (some ⟨g1,0,none⟩) (L.length+1) c1))),(12,.c (.b was)),(9,.c (.i .i64 nw)),(8,.c (.v (.slice a L.length c))),(7,.c (.b true)),(2,.c (.s key))] []
 rw [← hV5]
 have hP0:=hP; have hk0:=hk
 have hP:V5.P=Tryz.prog:=by rw [hV5]; exact hP0
 have hk:V5.kp=kp6:=by rw [hV5]; exact hk0
 have hCxV5:Ctx V5 Tryz.prog Tryz.f6 (fun e w'=>e=.returned (.bool true)∧Below w.heap.size w w'):=by rw [hV5]; exact hCxQ.cxW _ _ _
 have hnV5:V5.n0=0:=by rw [hV5]; rfl
 have hUV5:∀ w',Upd V5.S V5.w0 w'→Upd Non w5 w':=by
  rw [hV5]
  exact fun w' hu=>hu.mono fun q _ hq=>absurd hq no_wr
 obtain ⟨e1,he1⟩:=hO.eq
 obtain ⟨e2,he2⟩:=hO5.eq
 have hl2:L2.length=L.length+1+1:=by rw [he2,List.length_append,hl1]; rfl
 have hm1:L1.map (·.e)=L.map (·.e)++[losE nw key]:=by rw [he1,List.map_append]; rfl
 have hm2:L2.map (·.e)=L.map (·.e)++[losE nw key]++[losE nw key]:=by rw [he2,List.map_append,hm1]; rfl
 have hcl:CdOk (losE nw key).cmd:=zY0
 have hcd1:∀ x∈L1,CdOk x.e.cmd:=fun x hx=>by
  rw [he1] at hx
  rcases List.mem_append.1 hx with hx | hx
  ·exact hcd x hx
  ·simp only [List.mem_singleton] at hx; subst hx; exact hcl
 have hcd2:∀ x∈L2,CdOk x.e.cmd:=fun x hx=>by
  rw [he2] at hx
  rcases List.mem_append.1 hx with hx | hx
  ·exact hcd1 x hx
  ·simp only [List.mem_singleton] at hx; subst hx; exact hcl
 have hE5:Env w5:=hE.below hO5.up.to_below
 have hev1:Evs w5 (some ⟨g1,0,none⟩) (L.length+1) L1 900:=Evs.of hO5.raw hl1.symm (by omega) hcd1 hE5
 have hev2:Evs w5 (some ⟨g2,0,none⟩) (L.length+1+1) L2 900:=Evs.of hO5.raw1 hl2.symm (by omega) hcd2 hE5
 obtain ⟨law1,law2⟩:=lost_run hrun9 hlo hhi key
 rw [← hV,hwas,List.length_map] at law1 law2
 have k9:∀ r1 r2,(zH7 (au0 900) (L1.map (·.e)) 0).2=r1→CkP w5 (loV (L.length+1) r1 r2) (some ⟨g1,0,none⟩) (L.length+1) 900:=fun r1 r2 h=>⟨_,hev1,by rw [h]; simp [loV]⟩
 have v1:∀ r1 r2,loV (L.length+1) r1 r2 (some ⟨g1,0,none⟩) (L.length+1)=r1:=fun r1 r2=>by simp [loV]
 have v2:∀ r1 r2,loV (L.length+1) r1 r2 (some ⟨g2,0,none⟩) (L.length+1+1)=r2:=fun r1 r2=>by simp [loV]
 have fin:∀ en,Fin V5 res6 (.c (.b true)) en:=fun en=>zK7 hCxV5 hres6 fun ρ' w' hw' _ _=>⟨rfl,(hO5.up.trans (hUV5 w' hw'.up) (fun _ _ h=>h)).to_below⟩
 cases hb:was with
 | false =>
  rw [hb] at law1
  have r1:=law1 rfl
  rw [← hm1] at r1
  have hctr:zE4 V5 (auC w5 (loV (L.length+1) (L.length:Int) 0)):=auC_ok hP hUV5
  have k1:=k9 _ 0 r1
  (refine zB0 hctr (rs:=res6) true 300 _ _ _ ?_; simp (maxSteps:=1000000) only [VT,jf,jZ,qE,qF,qG,qH,qI,qK,qN,qO,qR,qS,qT,qe,qp,ev,qw,qy,qz,zD,zI,zJ,TE.sv,zM,↓reduceIte,reduceCtorEq,Nat.reduceEqDiff,Nat.reduceLT,zP,zQ,zR,zV,zW,hP,hk,res6,kp6,auC,rowCk,v1,k1,beq_self_eq_true])
  exact fin _
 | true =>
  rw [hb] at law2
  obtain ⟨r1,r2⟩:=law2 rfl hXs
  rw [← hm1] at r1
  rw [← hm2] at r2
  have hctr:zE4 V5 (auC w5 (loV (L.length+1) (-1) ((L.length+1:Nat):Int))):=auC_ok hP hUV5
  have k1:=k9 (-1) ((L.length+1:Nat):Int) r1
  have k2:CkP w5 (loV (L.length+1) (-1) ((L.length+1:Nat):Int)) (some ⟨g2,0,none⟩) (L.length+1+1) 900:=⟨_,hev2,by rw [r2]; simp [loV]⟩
  (refine zB0 hctr (rs:=res6) true 300 _ _ _ ?_; simp (maxSteps:=1000000) only [VT,jf,jg,jZ,qE,qF,qG,qH,qI,qK,qN,qO,qR,qS,qT,qe,qp,ev,qw,qy,qz,zD,zI,zJ,TE.sv,zM,↓reduceIte,reduceCtorEq,Nat.reduceEqDiff,Nat.reduceLT,zP,zQ,zR,zV,zW,hP,hk,res6,kp6,auC,rowCk,v1,v2,k1,k2,beq_self_eq_true])
  exact fin _
end Go.Proofs.YtfpeholdlkfmoaaGreatDoor
