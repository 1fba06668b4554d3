/- ambrylaw24.told, walked. Printed by gen_autold.py. -/
import Derived.Test.YtfpeholdlkfmoaaGreatDoorBS17
import Derived.Test.YtfpeholdlkfmoaaGreatDoorBS10
import Derived.Test.YtfpeholdlkfmoaaGreatDoorBS12
import Derived.Test.YtfpeholdlkfmoaaGreatDoorBS00
import Derived.Test.YtfpeholdlkfmoaaGreatDoorBS14
namespace Go.Proofs.YtfpeholdlkfmoaaGreatDoor
set_option linter.unusedSimpArgs false
set_option linter.unusedVariables false
set_option maxHeartbeats 8000000
open Go.RowKit
set_option maxRecDepth 100000
def evC (x:EvR):List SC:=evS x.e x.la x.ln x.lc
theorem zQ3 (x:EvR):(evC x).length=35:=rfl
theorem zI6 (pr:Nat→Prop) (L:List EvR):wfs pr (zB6 evC L):=by
 intro z hz
 obtain ⟨x,_,hx⟩:=List.mem_flatMap.1 hz
 exact zR8 pr x.e x.la x.ln x.lc z hx
theorem zI7 (ρ ρ':Nat→RE) (L:List EvR):zC1 ρ (zB6 evC L)=zC1 ρ' (zB6 evC L):=by
 induction L with
 | nil=>rfl
 | cons x L ih =>
  simp only [zB6,List.flatMap_cons,zC1,List.map_append] at ih ⊢
  rw [ih]; rfl
theorem evC_ones (L:List EvR):qu (zB6 evC L)=true:=by
 induction L with
 | nil=>rfl
 | cons x L ih=>exact ih
theorem infoEv:(Tryz.prog.info? 48).map (fun i=>(i.zero,i.size,i.bytes))=some (some (.agg (evA ⟨0,0,0,0,0,Cd.zero,An.zero,[]⟩ none 0 0)),35,296):=by kernel_rfl
def StepsAt (w:World) (a:Option Addr) (n:Nat):Prop:=∀ k,k < n→∃ g o z,a=some ⟨g,o,none⟩∧g < w.heap.size∧w.cell? ⟨g,o+k,none⟩=some (.int .i64 z)
theorem reflv_h {C:Cx} {nE M N:Nat} {mk:Nat→Prop} {en en':List EN} {X:St} {now:Int} (hP:C.P=Tryz.prog) (hM:zD en M=some (owE X.items)) (hl:X.items.length≤100000000) {n:Nat} (hn:n=X.items.length)
  (hmk:∀ q,mk q ↔ q=N) (hn0:C.n0≤N) (hN:zD en' N=some (owE (zB1 X now).items)) (hq:∀ q,q ≠ N→zD en' q=zD en q) :
  zP3 C nE mk en en' 19 [.g [.rw M n,.i .u64 X.cas,.i .i64 X.flush],.c (.i .i64 now)] (.g [.rw N (zB1 X now).items.length,.i .u64 (zB1 X now).cas,.i .i64 (zB1 X now).flush]):=by
 subst hn
 refine own_h (L:=(zB1 X now).items) (fun v=>.agg #[v,.int .u64 (zB1 X now).cas,.int .i64 (zB1 X now).flush]) hP (fun args w=>Tryz.call19 args w) hmk hn0 hN hq (fun pr h=>zC8 h) (fun ρ=>rfl) ?_
 intro ρ pr w hw hwf
 have h0:wfs pr [.rw M X.items.length,.i .u64 X.cas,.i .i64 X.flush]:=hwf (.g _) (List.mem_cons_self ..)
 have lM:pr M:=h0 (.rw M _) (List.mem_cons_self ..)
 obtain ⟨a,c,hv,hr⟩:=zS9 (own_ow hw.hp hw.ho lM hM)
 have:=rlive_w (X:=X) (c:=c) hr rfl hl now
 rw [← hv] at this
 refine this.mono ?_
 rintro z w'' ⟨⟨r,hr',rfl⟩,hb⟩
 exact ⟨_,rfl,zV6 hr',hb⟩
structure ToI (most:Int) where
 i:Nat
 L:List EvR
 X:St
 now:Int
 q:Int→Int
 n:Nat
 h:Tl most i n (L.map (·.e)) X now q
 hn:n≤2 * i
def toE (L:List EvR) (X:St) (q:Int→Int):List EN:=[⟨(25,0,whole),[.rw 2 X.items.length,.i .u64 X.cas,.i .i64 X.flush],true⟩,⟨(78,0,whole),[.i .i64 (q 0),.i .i64 (q 1)],true⟩,owE X.items,rwE 48 35 L.length (zB6 evC L)]
def toS (A B:Option Addr) (nl lc ns sc:Nat) (most:Int) (i:Nat) (now:Int) (m:Nat):List (Nat × SV):=[(11,.c (.i .i64 (i:Int))),(10,.c (.p 1 0)),(9,.c (.i .i64 now)),(8,.c (.p 0 0)),(7,.c (.rw 3 m)),(2,.c (.i .i64 most)),(1,.c (.v (.slice B ns sc))),(0,.c (.v (.slice A nl lc)))]
structure ToK (W0:World) (L:List EvR) (en:List EN) (ρ:Nat→RE) (w:World):Prop where
 up:Upd Non W0 w
 new:∀ b,wrB ρ en b→W0.heap.size≤b
 far:∀ x∈L,RawK w x.la x.e.lost∧x.ln=x.e.lost.length∧x.ln≤1∧∀ a',x.la=some a'→a'.block < w.heap.size∧¬ wrB ρ en a'.block
theorem ToK.hU {W0 w:World} {L:List EvR} {en:List EN} {ρ:Nat→RE} (h:ToK W0 L en ρ w) {w':World} (hu:Upd (wrB ρ en) w w'):Upd Non W0 w':=h.up.trans hu fun k hk hs=>absurd (h.new k hs) (by omega)
theorem ToK.step {D:Cx} {W0 w w':World} {L:List EvR} {en e en':List EN} {ρ ρ' ρ'':Nat→RE} (h:ToK W0 L en ρ w) (hS:D.S=wrB ρ en) (hw:D.w0=w) (hr:Hw D ρ' (· < e.length) e w')
  (hen:∀ i t cells,zD en' i=some ⟨t,cells,true⟩→∃ c cells0,zD e c=some ⟨t,cells0,true⟩∧ρ'' i=ρ' c):ToK W0 L en' ρ'' w':=by
 have hup:=hr.up
 rw [hS,hw] at hup
 have hb:∀ b,wrB ρ'' en' b→wrB ρ en b∨w.heap.size≤b:=by
  rintro b ⟨i,t,cells,hi,rfl⟩
  obtain ⟨c,cells0,hc,hρ⟩:=hen i t cells hi
  rw [hρ]
  have:=hr.mu c t cells0 ((by have:=zK0 hc; rwa [zB9] at this)) hc
  rwa [hS,hw] at this
 have hs:W0.heap.size≤w.heap.size:=h.up.size
 refine ⟨h.hU hup,fun b hb'=>?_,fun x hx=>?_⟩
 ·rcases hb b hb' with h1 | h1
  ·exact h.new b h1
  ·omega
 ·obtain ⟨k1,k2,k3,k4⟩:=h.far x hx
  refine ⟨fun k s hk=>?_,k2,k3,fun a' ha=>?_⟩
  ·obtain ⟨g,o,e1,hg,hc⟩:=k1 k s hk
   have:=k4 _ e1
   exact ⟨g,o,e1,Nat.lt_of_lt_of_le hg hup.size,by rw [hup.cell (p:=⟨g,o+k,none⟩) hg this.2]; exact hc⟩
  ·obtain ⟨l1,l2⟩:=k4 a' ha
   exact ⟨Nat.lt_of_lt_of_le l1 hup.size,fun h'=>by rcases hb _ h' with h1 | h1; exact l2 h1; omega⟩
theorem ToK.none {W0 w:World} {L:List EvR} {en:List EN} {ρ:Nat→RE} (h:ToK W0 L en ρ w) {x:EvR} (h1:x.la=none) (h2:x.e.lost=[]) (h3:x.ln=0):ToK W0 (L++[x]) en ρ w:=
 ⟨h.up,h.new,fun y hy=>by
  rcases List.mem_append.1 hy with hy | hy
  ·exact h.far y hy
  ·simp only [List.mem_singleton] at hy; subst hy
   exact ⟨fun k s hk=>by rw [h2] at hk; simp at hk,by rw [h2,h3]; rfl,by omega,fun a' ha=>by rw [h1] at ha; cases ha⟩⟩
theorem zP4 {D:Cx} {W0 w w':World} {a:Act} {L L':List EvR} {en e:List EN} {ρ ρ':Nat→RE} {s sl':List (Nat × SV)} {X:St} {q:Int→Int} (hr:Rep D ρ' 122 s e a w') (hI:ToK W0 L' en ρ w) (hS:D.S=wrB ρ en) (hw:D.w0=w) (hsub:∀ x∈L,x∈L') (ps:List Nat) (hps:ps.length=4) (hnd:∀ i,i < 4→∀ j,j < 4→ps.getD i 0=ps.getD j 0→i=j)
  (he:∀ i t cells mu,zD (toE L X q) i=some ⟨t,cells,mu⟩→∃ cells0,zD e (ps.getD i 0)=some ⟨t,cells0,mu⟩∧zC1 (fun i=>ρ' (ps.getD i 0)) cells=zC1 ρ' cells0∧wfs (· < 4) cells)
  (hs:pkS ρ' (fun i=>ρ' (ps.getD i 0)) 4 s sl'):∃ ρ'',Wt D.df ρ'' 122 sl' (toE L X q) a w'∧ToK W0 L (toE L X q) ρ'' w':=by
 refine ⟨fun i=>ρ' (ps.getD i 0),hr.wt.pick ps hps.symm (by rw [hps]; exact hnd) he (fun d v' hd=>zM7 hs d v' hd),?_⟩
 have:=hI.step (en':=toE L X q) (ρ'':=fun i=>ρ' (ps.getD i 0)) hS hw hr.hw (fun i t cells hi=>by obtain ⟨c0,h1,_⟩:=he i t cells true hi; exact ⟨_,c0,h1,rfl⟩)
 exact ⟨this.up,this.new,fun x hx=>this.far x (hsub x hx)⟩
theorem to_mid {D:Cx} {W0 w w':World} {a:Act} {L:List EvR} {en e en2:List EN} {ρ ρ':Nat→RE} {s:List (Nat × SV)} {sl2:Nat→List (Nat × SV)} {key:List UInt8} {t11:TypeId} (hr:Rep D ρ' 122 s e a w') (hI:ToK W0 L en ρ w) (hS:D.S=wrB ρ en) (hw:D.w0=w) (ps:List Nat) (hps:ps.length=6) (hen2:en2.length=6) (hnd:∀ i,i < 6→∀ j,j < 6→ps.getD i 0=ps.getD j 0→i=j)
  (he:∀ i t cells mu,zD en2 i=some ⟨t,cells,mu⟩→∃ cells0,zD e (ps.getD i 0)=some ⟨t,cells0,mu⟩∧zC1 (fun i=>ρ' (ps.getD i 0)) cells=zC1 ρ' cells0∧wfs (· < 6) cells∧t.1 ≠ zE8∧cells0 ≠ []) (h11:zD e 11=some ⟨(t11,0,whole),[.s key],true⟩) (ht11:t11 ≠ zE8) (hno:∀ i,i < 6→ps.getD i 0 ≠ 11)
  (hs:(ρ' 11).pre=[]→pkS ρ' (fun i=>ρ' (ps.getD i 0)) 6 s (sl2 (ρ' 11).blk)) (E9:Ev) (hE9:E9.lost=[key]):∃ m ρ'',Wt D.df ρ'' 122 (sl2 m) en2 a w'∧ToK W0 (L++[⟨E9,some ⟨m,0,none⟩,1,1⟩]) en2 ρ'' w':=by
 have l11:11 < e.length:=by have:=zK0 h11; rwa [zB9] at this
 have g11:=hr.hw.hp 11 _ _ _ l11 h11
 obtain ⟨_,hpre,hpost⟩:=hr.hw.ho 11 _ _ _ l11 h11
 have hnl:(ρ' 11).nl=none:=by
  cases hx:(ρ' 11).nl with
  | none=>rfl
  | some p=>exact absurd (g11.non (by rw [hx]; exact fun h=>nomatch h)) (by simp)
 have hb11:=g11.heap ⟨ht11,hnl⟩
 rw [hpre,hpost,List.nil_append,List.append_nil] at hb11
 have hst:=hI.step (en':=en2) (ρ'':=fun i=>ρ' (ps.getD i 0)) hS hw hr.hw (fun i t cells hi=>by obtain ⟨c0,h1,_⟩:=he i t cells true hi; exact ⟨_,c0,h1,rfl⟩)
 refine ⟨(ρ' 11).blk,fun i=>ρ' (ps.getD i 0),hr.wt.pick ps (by rw [hps]; exact hen2) (by rw [hps]; exact hnd) (fun i t cells mu hi=>by
  obtain ⟨c0,h1,h2,h3,_⟩:=he i t cells mu hi
  rw [hen2]
  exact ⟨c0,h1,h2,h3⟩) (fun d v' hd=>by rw [hen2]; exact zM7 (hs hpre) d v' hd),hst.up,hst.new,fun x hx=>?_⟩
 rcases List.mem_append.1 hx with hx | hx
 ·exact hst.far x hx
 simp only [List.mem_singleton] at hx
 subst hx
 have hbl:=(Array.getElem?_eq_some_iff.1 hb11).1
 refine ⟨fun k s hk=>?_,by rw [hE9]; rfl,Nat.le_refl 1,fun a' ha=>?_⟩
 ·rw [hE9] at hk
  match k with
  | 0 =>
   simp only [List.getElem?_cons_zero,Option.some.injEq] at hk; subst hk
   refine ⟨_,0,rfl,hbl,?_⟩
   rw [Go.cell_of_row w' _ _ _ _ (0,0) hb11]; rfl
  | k+1=>simp at hk
 ·have ha:some (⟨(ρ' 11).blk,0,none⟩:Addr)=some a':=ha
  cases ha
  refine ⟨hbl,?_⟩
  rintro ⟨c,t,cells,hc,hb⟩
  have hc6:c < 6:=by have:=zK0 hc; rw [zB9] at this; omega
  obtain ⟨c0,h1,_,_,h4,h5⟩:=he c t cells true hc
  have lp:ps.getD c 0 < e.length:=by have:=zK0 h1; rwa [zB9] at this
  have hnp:(ρ' (ps.getD c 0)).nl=none:=by
   cases hx:(ρ' (ps.getD c 0)).nl with
   | none=>rfl
   | some p=>exact absurd ((hr.hw.hp _ _ _ _ lp h1).non (by rw [hx]; exact fun h=>nomatch h)) h5
  exact hno c hc6 (hr.hw.inj _ _ lp l11 ((zB4 h1).2 ⟨h4,hnp⟩) ((zB4 h11).2 ⟨ht11,hnl⟩) hb)
def LosK (w:World) (x:EvR):Prop:=RawK w x.la x.e.lost∧x.ln=x.e.lost.length∧x.ln≤9223372036854775807∧∀ a',x.la=some a'→a'.block < w.heap.size
def ToldP (W0:World) (most:Int) (z:Ending) (w':World):Prop:=∃ (r:RE) (t:ToI most),z=.returned (zE9 r t.L.length)∧t.i≤40∧Upd Non W0 w'∧RowOk W0.heap.size w' r 48 35 t.L.length (zC1 (fun _=>⟨0,[],[],0,none⟩) (zB6 evC t.L))∧∀ x∈t.L,LosK w' x∧x.ln≤1∧∀ a',x.la=some a'→a'.block ≠ r.blk
theorem told_w {w:World} {A Bs:Option Addr} {nl lc ns sc:Nat} {cs:Nat→Cd} (most:Int) (hCm:CmdsAt w A nl cs) (hSt:StepsAt w Bs ns) (hnl:nl≤9223372036854775807) (hns:ns≤9223372036854775807) (hE:Env w) :
  Calls Tryz.prog 16 #[.slice A nl lc,.slice Bs ns sc,.int .i64 most] w (ToldP w most):=by
 refine zB8 Tryz.func16 rfl kp16 (S:=Non) (ρ:=fun _=>⟨0,[],[],0,none⟩) (en:=[]) [.c (.v (.slice A nl lc)),.c (.v (.slice Bs ns sc)),.c (.i .i64 most)] Tryz.ntmps16 (At.nil _ _ _) (by intro y hy; simp only [List.mem_cons,List.not_mem_nil,or_false] at hy; rcases hy with rfl | rfl | rfl <;> trivial) (by simp) ?_
 intro C hC hP hk
 have hS:C.S=Non:=by rw [hC]; rfl
 have hw:C.w0=w:=by rw [hC]; rfl
 have hn0:C.n0=0:=by rw [hC]; rfl
 have hCx:Ctx C Tryz.prog Tryz.f16 (ToldP w most):=by rw [hC]; exact zL1
 have hctr:zE4 C noC:=zE6 hP
 (refine zB0 hctr (rs:=res16) true 300 _ _ _ ?_; simp (maxSteps:=1000000) only [VT,qH,qI,qJ,qK,qO,qf,qg,q0t,qu,qv,ev,qy,qz,zC,zD,zE,zF,zG,zI,zJ,zK,zM,↓reduceIte,reduceCtorEq,Value.oneCell',Nat.reduceEqDiff,Nat.reduceAdd,Nat.reduceLT,zP,zQ,zR,zt,hP,hk,kp16,Nat.reduceAdd])
 refine zI8 true (en':=[⟨(25,0,whole),[.rw 2 0,.i .u64 0,.i .i64 0],true⟩,⟨(78,0,whole),[.i .i64 0,.i .i64 0],true⟩]) (sl':=[(11,.c (.i .i64 0)),(10,.c (.p 1 0)),(9,.c (.i .i64 1)),(8,.c (.p 0 0)),(7,.c (.v (.slice none 0 0))),(2,.c (.i .i64 most)),(1,.c (.v (.slice Bs ns sc))),(0,.c (.v (.slice A nl lc)))]) (33,0,rowQ 0) rfl (fun _=>.inr ⟨by simp,rfl,rfl⟩) (fun _=>by show ¬ ((33:Nat)=zE8); decide) ?_ ?_ ?_
 ·refine ⟨⟨rfl,rfl,fun ρ h=>?_,zC8 (by show 2 < 2+1; decide)⟩,⟨rfl,rfl,fun _ _=>rfl,(by intro z hz; simp only [List.mem_cons,List.not_mem_nil,or_false] at hz; rcases hz with rfl | rfl <;> trivial)⟩,trivial⟩
  have h:(ρ 2).nl=some none:=h
  simp only [zC1,List.map_cons,List.map_nil,SC.den,zG4 h]
 ·refine ⟨⟨⟨_,rfl,fun _ _=>rfl⟩,trivial⟩,⟨⟨_,rfl,fun _ _=>rfl⟩,?_⟩,⟨⟨_,rfl,fun _ _=>rfl⟩,trivial⟩,⟨⟨_,rfl,fun _ _=>rfl⟩,?_⟩,⟨⟨_,rfl,fun _ _=>rfl⟩,trivial⟩,⟨⟨_,rfl,fun _ _=>rfl⟩,trivial⟩,⟨⟨_,rfl,fun _ _=>rfl⟩,trivial⟩,⟨⟨_,rfl,fun _ _=>rfl⟩,trivial⟩,trivial⟩
  ·show 1 < 2+1; decide
  ·show 0 < 2+1; decide
 refine zI8 true (en':=[⟨(25,0,whole),[.rw 2 0,.i .u64 0,.i .i64 0],true⟩,⟨(78,0,whole),[.i .i64 0,.i .i64 0],true⟩,owE []]) (sl':=toS A Bs nl lc ns sc most 0 1 0) (48,0,rowP 35 0 0) rfl (fun _=>⟨rfl,.inr ⟨rfl,rfl,rfl⟩⟩) (fun _=>by show ¬ ((48:Nat)=zE8); decide) ?_ ?_ ?_
 ·exact ⟨⟨rfl,rfl,fun _ _=>rfl,zC8 (by show 2 < 3+1; decide)⟩,⟨rfl,rfl,fun _ _=>rfl,(by intro z hz; simp only [List.mem_cons,List.not_mem_nil,or_false] at hz; rcases hz with rfl | rfl <;> trivial)⟩,⟨rfl,rfl,fun _ _=>rfl,(fun z hz=>by cases hz)⟩,trivial⟩
 ·refine ⟨⟨⟨_,rfl,fun _ _=>rfl⟩,trivial⟩,⟨⟨_,rfl,fun _ _=>rfl⟩,?_⟩,⟨⟨_,rfl,fun _ _=>rfl⟩,trivial⟩,⟨⟨_,rfl,fun _ _=>rfl⟩,?_⟩,⟨⟨_,rfl,fun ρ h=>?_⟩,?_⟩,⟨⟨_,rfl,fun _ _=>rfl⟩,trivial⟩,⟨⟨_,rfl,fun _ _=>rfl⟩,trivial⟩,⟨⟨_,rfl,fun _ _=>rfl⟩,trivial⟩,trivial⟩
  ·show 1 < 3+1; decide
  ·show 0 < 3+1; decide
  ·have h:(ρ 3).nl=some none:=h
   simp only [SV.den,SC.den,zG4 h]
  ·show 3 < 3+1; decide
 refine Run_loopW (ι:={ t:ToI most // t.i≤40 }) (κ:={ t:ToI most // t.i≤40 }) 0 (fun t=>toS A Bs nl lc ns sc most t.1.i t.1.now t.1.L.length) (fun t=>toE t.1.L t.1.X t.1.q) (fun t ρ w'=>ToK w t.1.L (toE t.1.L t.1.X t.1.q) ρ w') (fun t=>40 - t.1.i) ⟨⟨0,[],St.zero,1,fun _=>0,0,Tl.start most,Nat.le_refl _⟩,Nat.zero_le 40⟩
  (fun t=>[(7,.c (.rw 3 t.1.L.length))]) (fun t=>toE t.1.L t.1.X t.1.q) (fun t ρ w'=>ToK w t.1.L (toE t.1.L t.1.X t.1.q) ρ w') rfl ?_ ?_ ?_
 ·intro ρ2 a2 w2 hr2
  refine ⟨ρ2,hr2.wt,?_,?_,fun x hx=>nomatch hx⟩
  ·have:=hr2.hw.up; rwa [hS,hw] at this
  ·rintro b ⟨c,t,cells,hc,rfl⟩
   have hc:zD (toE [] St.zero fun _=>0) c=some ⟨t,cells,true⟩:=hc
   have lc:c < 4:=by have:=zK0 hc; rwa [zB9] at this
   have:=hr2.hw.mu c t cells lc hc
   rw [hS,hw] at this
   exact this.resolve_left (fun h=>h)
 ·rintro ⟨t,ht⟩ ρ2 w2 _ hI
  have hI:ToK w t.L (toE t.L t.X t.q) ρ2 w2:=hI
  show Run (cxW C ρ2 w2 (toE t.L t.X t.q)) _ 122 [(7,.c (.rw 3 t.L.length))] (toE t.L t.X t.q)
  obtain ⟨G,hG⟩:∃ G,G=cxW C ρ2 w2 (toE t.L t.X t.q):=⟨_,rfl⟩
  rw [← hG]
  have hCxG:Ctx G Tryz.prog Tryz.f16 (ToldP w most):=by rw [hG]; exact hCx.cxW _ _ _
  have hP:G.P=Tryz.prog:=by rw [hG]; exact hP
  have hk:G.kp=kp16:=by rw [hG]; exact hk
  have hctr:zE4 G noC:=zE6 hP
  (refine zB0 hctr (rs:=res16) true 300 _ _ _ ?_; simp (maxSteps:=1000000) only [VT,qE,qF,qG,qH,qI,qK,qO,ev,qy,zI,zJ,TE.sv,↓reduceIte,reduceCtorEq,Nat.reduceEqDiff,Nat.reduceLT,zP,zQ,zR,rwE,hk,res16,kp16,toE])
  refine zK7 (v:=.c (.rw 3 t.L.length)) hCxG hres16 fun ρ' w' hw' _ _=>?_
  have hI2:=hI.step (en':=toE t.L t.X t.q) (ρ'':=ρ') (e:=toE t.L t.X t.q) (by rw [hG]; rfl) (by rw [hG]; rfl) hw' (fun i t cells hi=>⟨i,cells,hi,rfl⟩)
  have hO:=hw'.ho 3 _ _ _ (by show 3 < 4; decide) rfl
  have hwr:wrB ρ' (toE t.L t.X t.q) (ρ' 3).blk:=⟨3,_,_,rfl,rfl⟩
  have hdn:((zC1 (fun _=>⟨0,[],[],0,none⟩) (zB6 evC t.L)).length)=(zB6 evC t.L).length:=List.length_map ..
  refine ⟨ρ' 3,t,rfl,ht,hI2.up,⟨hI2.new _ hwr,by rw [hdn]; exact hO.2,fun hn=>?_,fun hn=>?_⟩,fun x hx=>?_⟩
  ·rw [zI7 _ ρ' t.L]
   exact (hw'.hp 3 _ _ _ (by show 3 < 4; decide) rfl).heap ⟨(by show ¬ (48:Nat)=zE8; decide),hn⟩
  ·rcases hO.2.2 with ⟨h1,_⟩ | ⟨h1,h2,h3⟩
   ·exact absurd h1 hn
   ·have hL:t.L=[]:=List.eq_nil_of_length_eq_zero h2
    rw [hL]; rfl
  ·obtain ⟨f1,f2,f3,f4⟩:=hI2.far x hx
   exact ⟨⟨f1,f2,by omega,fun a' ha=>(f4 a' ha).1⟩,f3,fun a' ha h=>(f4 a' ha).2 (by rw [h]; exact hwr)⟩
 rintro ⟨⟨i,L,X,now,q,n,hTl,hn9⟩,hi⟩ D ρ2 w2 dP dS dw dn dr dk ddf dPan dRet hwt hI hX hJ
 have hi:i≤40:=hi
 have hI:ToK w L (toE L X q) ρ2 w2:=hI
 have dS:D.S=wrB ρ2 (toE L X q):=dS
 have dn:D.n0=4:=dn
 have hP1:=hP
 have hP:D.P=Tryz.prog:=dP.trans hP
 have hk:D.kp=kp16:=dk.trans hk
 have hctr:zE4 D noC:=zE6 hP
 have hEC:EnvC D:=fun w' hu=>by rw [dS,dw] at hu; exact hE.below (hI.hU hu).to_below
 have hlL:L.length≤100:=by have:=hTl.len; rw [List.length_map] at this; omega
 show Run D _ 122 (toS A Bs nl lc ns sc most i now L.length) (toE L X q)
 by_cases hin:i < nl
 rotate_left
 ·have q1:decide ((i:Int) < (nl:Int))=false:=decide_eq_false (by omega)
  (refine zB0 hctr (rs:=res16) true 300 _ _ _ ?_; simp (maxSteps:=1000000) only [VT,jg,jd,qH,qI,qK,qN,qO,qR,qS,qe,qp,ev,qy,qz,zD,zH,zI,zJ,zM,↓reduceIte,reduceCtorEq,Nat.reduceEqDiff,Nat.reduceLT,zP,zQ,zR,zW,rwE,hP,hk,res16,kp16,toS,toE,q1])
  refine hX D (SameQ.refl D) ⟨⟨i,L,X,now,q,n,hTl,hn9⟩,hi⟩ rfl fun ρ' a' w' hr'=>?_
  have hr':Rep D ρ' 122 _ (toE L X q) a' w':=hr'
  refine ⟨ρ',?_,hI.step (ρ'':=ρ') dS dw hr'.hw (fun i t cells hi=>⟨i,cells,hi,rfl⟩)⟩
  rw [← ddf]
  exact (hr'.less (s:=[(7,.c (.rw 3 L.length))]) (zH6 ⟨rfl,trivial⟩)).wt
 have q1:decide ((i:Int) < (nl:Int))=true:=decide_eq_true (by omega)
 by_cases hi40:i < 40
 rotate_left
 ·have q2:decide ((i:Int) < 40)=false:=decide_eq_false (by omega)
  (refine zB0 hctr (rs:=res16) true 300 _ _ _ ?_; simp (maxSteps:=1000000) only [VT,jf,jg,jZ,qH,qI,qK,qN,qO,qR,qS,qe,qp,ev,qy,qz,zD,zH,zI,zJ,zM,↓reduceIte,reduceCtorEq,Nat.reduceEqDiff,Nat.reduceLT,zP,zQ,zR,zV,zW,rwE,hP,hk,res16,kp16,toS,toE,q1,q2])
  refine hX D (SameQ.refl D) ⟨⟨i,L,X,now,q,n,hTl,hn9⟩,hi⟩ rfl fun ρ' a' w' hr'=>?_
  have hr':Rep D ρ' 122 _ (toE L X q) a' w':=hr'
  refine ⟨ρ',?_,hI.step (ρ'':=ρ') dS dw hr'.hw (fun i t cells hi=>⟨i,cells,hi,rfl⟩)⟩
  rw [← ddf]
  exact (hr'.less (s:=[(7,.c (.rw 3 L.length))]) (zH6 ⟨rfl,trivial⟩)).wt
 have q2:decide ((i:Int) < 40)=true:=decide_eq_true (by omega)
 have p0:(0:Int)≤(i:Int):=by omega
 have p1:(i:Int) < (nl:Int):=by omega
 have p3:IntKind.i64.wrap ((i:Int)+1)=((i+1:Nat):Int):=by rw [IntWalk.i64_in _ (by omega)]; rfl
 obtain ⟨cg,co,hA9,hcgl,hcell,hcd⟩:=hCm i hin
 subst hA9
 obtain ⟨c,hc⟩:∃ c,cs i=c:=⟨_,rfl⟩
 rw [hc] at hcell hcd
 have hrc:D.rd cg (co+i * 16) 16=some (cdS c):=by
  have:=zY9 (C:=D) (vs:=(cdA c).toList) (b:=cg) (o:=co+i * 16) (fun w' hu j v hv=>by
   rw [dS,dw] at hu
   rw [(hI.hU hu).cell (p:=⟨cg,co+i * 16+j,none⟩) hcgl (fun h=>h)]
   exact hcell j v hv) (n:=16) rfl
  rw [this]; rfl
 have hrv:D.rd cg (co+i * 16+3) 1=some [.s c.val]:=by
  have:=zY9 (C:=D) (vs:=[.string ⟨c.val.toArray⟩]) (b:=cg) (o:=co+i * 16+3) (fun w' hu j v hv=>by
   rw [dS,dw] at hu
   match j with
   | 0 =>
    simp only [List.getElem?_cons_zero,Option.some.injEq] at hv; subst hv
    rw [Nat.add_zero,(hI.hU hu).cell (p:=⟨cg,co+i * 16+3,none⟩) hcgl (fun h=>h)]
    exact hcell 3 _ rfl
   | _+1=>simp at hv) (n:=1) rfl
  rw [this]; rfl
 have hcv:=hcd.val
 (refine zB0 hctr (rs:=res16) true 21 _ _ _ ?_; simp (maxSteps:=1000000) only [VT,jf,jZ,qH,qI,qK,qN,qO,qR,qS,qe,qp,ev,qy,qz,zD,zI,zJ,zM,↓reduceIte,reduceCtorEq,Nat.reduceEqDiff,Nat.reduceLT,zP,zQ,zR,zV,rwE,hP,hk,res16,kp16,toS,toE,q1,q2])
 refine Run_join (κ:=Int) (fun k=>(12,.c (.i .i64 k)) :: [(11,.c (.i .i64 (i:Int))),(10,.c (.p 1 0)),(9,.c (.i .i64 now)),(8,.c (.p 0 0)),(7,.c (.rw 3 L.length)),(2,.c (.i .i64 most)),(1,.c (.v (.slice Bs ns sc))),(0,.c (.v (.slice (some ⟨cg,co,none⟩) nl lc)))]) (fun _=>toE L X q) (fun k=>?_) fun use=>?_
 rotate_left
 ·by_cases his:i < ns
  ·have q3:decide ((i:Int) < (ns:Int))=true:=decide_eq_true (by omega)
   have p2:(i:Int) < (ns:Int):=by omega
   obtain ⟨sg,so,z,hB9,hsgl,hsc⟩:=hSt i his
   subst hB9
   have hrs:D.rd sg (so+i) 1=some [.i .i64 z]:=zY9 (vs:=[.int .i64 z]) (fun w' hu j v hv=>by
    match j with
    | 0 =>
     simp only [List.getElem?_cons_zero,Option.some.injEq] at hv; subst hv
     rw [dS,dw] at hu
     rw [Nat.add_zero,(hI.hU hu).cell (p:=⟨sg,so+i,none⟩) hsgl (fun h=>h)]; exact hsc
    | _+1=>simp at hv) rfl
   (refine zB0 hctr (rs:=res16) true 14 _ _ _ ?_; simp (maxSteps:=1000000) only [VT,jf,qH,qI,qK,qN,qO,qP,qR,qS,qX,qe,ev,qy,zI,zJ,zM,↓reduceIte,reduceCtorEq,Nat.reduceEqDiff,Nat.reduceLT,zP,zQ,zR,zT,zV,zh,zo,hP,hk,res16,kp16,p0,p2,Nat.mul_one,hrs])
   exact use z _ (zH6 ⟨rfl,rfl,rfl,rfl,rfl,rfl,rfl,rfl,rfl,trivial⟩)
  ·have q3:decide ((i:Int) < (ns:Int))=false:=decide_eq_false (by omega)
   (refine zB0 hctr (rs:=res16) true 9 _ _ _ ?_; simp (maxSteps:=1000000) only [VT,jg,qH,qI,qK,qN,qO,qR,qS,qe,ev,qy,zI,zJ,zM,↓reduceIte,reduceCtorEq,Nat.reduceEqDiff,Nat.reduceLT,zP,zQ,zR,zW,hP,hk,res16,kp16,q3])
   exact use 0 _ (zH6 ⟨rfl,rfl,rfl,rfl,rfl,rfl,rfl,rfl,rfl,trivial⟩)
 show Run D _ 122 ((12,.c (.i .i64 k)) :: [(11,.c (.i .i64 (i:Int))),(10,.c (.p 1 0)),(9,.c (.i .i64 now)),(8,.c (.p 0 0)),(7,.c (.rw 3 L.length)),(2,.c (.i .i64 most)),(1,.c (.v (.slice Bs ns sc))),(0,.c (.v (.slice (some ⟨cg,co,none⟩) nl lc)))]) (toE L X q)
 obtain ⟨k7,hk7⟩:∃ k7,andZ .i64 k 7=k7:=⟨_,rfl⟩
 have hk7b:0≤k7∧k7≤7:=by rw [← hk7]; exact and_le k 7 (by decide) (by decide)
 have hlo:=hTl.lo
 have hhi:=hTl.hi
 obtain ⟨now2,hnow2⟩:∃ now2,now+k7=now2:=⟨_,rfl⟩
 have w1:IntKind.i64.wrap (now+k7)=now2:=by rw [IntWalk.i64_in _ (by omega)]; exact hnow2
 obtain ⟨R,hR⟩:∃ R,zA9 X now2 c most=R:=⟨_,rfl⟩
 (refine zB0 hctr (rs:=res16) true 300 _ _ _ ?_; simp (maxSteps:=1000000) only [VT,qH,qI,qK,qO,qR,qS,ev,qy,qz,zI,zJ,↓reduceIte,reduceCtorEq,Nat.reduceEqDiff,Nat.reduceLT,zP,zQ,zR,rwE,hk,kp16,toE,hk7,w1])
 (refine zG1 hctr (by rw [hP]; rfl) rs16_12 [jB (fun N => .t [.g [.rw N R.1.items.length, .i .u64 R.1.cas, .i .i64 R.1.flush], .g (anS R.2)]) (fun _ => owE R.1.items)] (ensure_type_of% (Cmp.of (by simp (maxSteps := 1000000) only [qA, qK, qO, qP, qX, qh, q0t, qu, qv, ev, qw, qy, zA, zB, zC, zD, zE, zF, zG, TE.sv, zM, ↓reduceIte, reduceCtorEq, Nat.reduceEqDiff, Nat.reduceAdd, zP, zT, zh, zt, cE, jA, jB, jC, jD, jF, jG, jH, jJ, jK, jL, jM, jN, hP, noC, cdS, anS, Nat.reduceAdd, p0, p1, hrc]; rfl)) "" Cmp.mk) (by kernel_rfl) (by kernel_rfl) (by first | exact zA2 _ | kernel_rfl) (by kernel_rfl) (by rfl) (by rfl) (by first | exact zA0 _ | rfl) (by rfl) ?_ ?_; rotate_left; refine zB0 hctr (rs := res16) true 300 _ _ _ ?_; simp (maxSteps := 1000000) only [VT, qH, qI, qK, qO, qP, qR, qS, qV, ev, qy, qz, zD, zG, zI, zJ, zM, ↓reduceIte, reduceCtorEq, Nat.reduceEqDiff, Nat.reduceAdd, Nat.reduceLT, zP, zQ, zR, zt, zu, jN, jO, hP, hk, res16, kp16, Nat.reduceAdd]; rotate_left; simp (maxSteps := 1000000) only [qK, qO, qP, qX, qh, q0t, qu, qv, ev, qw, qy, zA, zB, zC, zD, zE, zG, TE.sv, zM, ↓reduceIte, reduceCtorEq, Nat.reduceEqDiff, Nat.reduceAdd, Nat.reduceSub, Nat.reduceLeDiff, zP, zR, zS, zT, zh, zn, zt, jD, jF, jG, jH, jN, jP, jQ, jR, jS, jT, jU, hP, cdS, Nat.reduceAdd, p0, p1, hrc])
 ·exact modApc_h (M:=2) (N:=4) R hR hP hEC (hTl.nice.good (by omega)) hcd rfl rfl (mkC_head (by simp)) (by rw [dn]; exact Nat.le_refl _) rfl (fun q hq=>by match q with | 0=>rfl | 1=>rfl | 2=>rfl | 3=>rfl | 4=>exact absurd rfl hq | _+5=>rfl)
 by_cases hst:R.2.st=0
 ·have s0:(R.2.st == 0)=true:=by simpa using hst
  simp (maxSteps:=1000000) only [VT,jf,jd,qH,qI,qK,qO,qR,qS,qp,ev,qy,qz,zD,zH,zI,zJ,↓reduceIte,reduceCtorEq,Nat.reduceEqDiff,Nat.reduceLT,zP,zQ,zR,zV,hP,hk,kp16,s0,p3]
  refine hJ D (SameQ.refl D) ⟨⟨i+1,L,X,now2,q,n,hTl.skip (by omega) (by omega),by omega⟩,by show i+1≤40; omega⟩ (by show 40 - (i+1) < 40 - i; omega) fun ρ' a' w' hr'=>?_
  have hend:=zP4 (L:=L) (X:=X) (q:=q) (sl':=toS (some ⟨cg,co,none⟩) Bs nl lc ns sc most (i+1) now2 (L).length) hr' hI dS dw (fun x h=>h) [0,1,2,3] rfl (by decide) (fun j t cells mu hj=>by
   match j with
   | 0 =>
    simp only [toE,zD,Option.some.injEq,EN.mk.injEq] at hj; obtain ⟨rfl,rfl,rfl⟩:=hj
    exact ⟨_,rfl,rfl,zC8 (by show 2 < 4; decide)⟩
   | 1 =>
    simp only [toE,zD,Option.some.injEq,EN.mk.injEq] at hj; obtain ⟨rfl,rfl,rfl⟩:=hj
    exact ⟨_,rfl,rfl,(by intro z hz; simp only [List.mem_cons,List.not_mem_nil,or_false] at hz; rcases hz with rfl | rfl <;> trivial)⟩
   | 2 =>
    simp only [toE,zD,owE,muE,Option.some.injEq,EN.mk.injEq] at hj; obtain ⟨rfl,rfl,rfl⟩:=hj
    exact ⟨_,rfl,(zC0 _ _).trans (zC0 _ _).symm,zF4 _ _⟩
   | 3 =>
    simp only [toE,zD,rwE,Option.some.injEq,EN.mk.injEq] at hj; obtain ⟨rfl,rfl,rfl⟩:=hj
    exact ⟨_,rfl,zI7 _ _ _,zI6 _ _⟩
   | j+4=>simp [toE,zD] at hj)
   (⟨⟨_,rfl,rfl,trivial⟩,⟨_,rfl,rfl,(by show 1 < 4; decide)⟩,⟨_,rfl,rfl,trivial⟩,⟨_,rfl,rfl,(by show 0 < 4; decide)⟩,⟨_,rfl,rfl,(by show 3 < 4; decide)⟩,⟨_,rfl,rfl,trivial⟩,⟨_,rfl,rfl,trivial⟩,⟨_,rfl,rfl,trivial⟩,trivial⟩)
  rw [ddf] at hend
  exact hend
 have s0:(R.2.st == 0)=false:=by simpa using hst
 by_cases hvl:(5000:Int) < (c.val.length:Int)
 ·have s1:decide ((5000:Int) < (c.val.length:Int))=true:=decide_eq_true hvl
  simp (maxSteps:=1000000) only [VT,jf,jg,jZ,qH,qI,qK,qN,qO,qP,qR,qS,qV,qX,qe,qp,ev,qy,qz,zD,zH,zI,zJ,zM,↓reduceIte,reduceCtorEq,Nat.reduceEqDiff,Nat.reduceLT,zP,zQ,zR,zT,zV,zW,zh,hP,hk,kp16,s0,s1,p0,p1,hrv,p3]
  refine hJ D (SameQ.refl D) ⟨⟨i+1,L,X,now2,q,n,hTl.skip (by omega) (by omega),by omega⟩,by show i+1≤40; omega⟩ (by show 40 - (i+1) < 40 - i; omega) fun ρ' a' w' hr'=>?_
  have hend:=zP4 (L:=L) (X:=X) (q:=q) (sl':=toS (some ⟨cg,co,none⟩) Bs nl lc ns sc most (i+1) now2 (L).length) hr' hI dS dw (fun x h=>h) [0,1,2,3] rfl (by decide) (fun j t cells mu hj=>by
   match j with
   | 0 =>
    simp only [toE,zD,Option.some.injEq,EN.mk.injEq] at hj; obtain ⟨rfl,rfl,rfl⟩:=hj
    exact ⟨_,rfl,rfl,zC8 (by show 2 < 4; decide)⟩
   | 1 =>
    simp only [toE,zD,Option.some.injEq,EN.mk.injEq] at hj; obtain ⟨rfl,rfl,rfl⟩:=hj
    exact ⟨_,rfl,rfl,(by intro z hz; simp only [List.mem_cons,List.not_mem_nil,or_false] at hz; rcases hz with rfl | rfl <;> trivial)⟩
   | 2 =>
    simp only [toE,zD,owE,muE,Option.some.injEq,EN.mk.injEq] at hj; obtain ⟨rfl,rfl,rfl⟩:=hj
    exact ⟨_,rfl,(zC0 _ _).trans (zC0 _ _).symm,zF4 _ _⟩
   | 3 =>
    simp only [toE,zD,rwE,Option.some.injEq,EN.mk.injEq] at hj; obtain ⟨rfl,rfl,rfl⟩:=hj
    exact ⟨_,rfl,zI7 _ _ _,zI6 _ _⟩
   | j+4=>simp [toE,zD] at hj)
   (⟨⟨_,rfl,rfl,trivial⟩,⟨_,rfl,rfl,(by show 1 < 4; decide)⟩,⟨_,rfl,rfl,trivial⟩,⟨_,rfl,rfl,(by show 0 < 4; decide)⟩,⟨_,rfl,rfl,(by show 3 < 4; decide)⟩,⟨_,rfl,rfl,trivial⟩,⟨_,rfl,rfl,trivial⟩,⟨_,rfl,rfl,trivial⟩,trivial⟩)
  rw [ddf] at hend
  exact hend
 have s1:decide ((5000:Int) < (c.val.length:Int))=false:=decide_eq_false hvl
 obtain ⟨cn,hcn⟩:∃ cn,andZ .i64 (shrZ .i64 k 3) 1=cn:=⟨_,rfl⟩
 have hcnb:0≤cn∧cn≤1:=by rw [← hcn]; exact and_le (shrZ .i64 k 3) 1 (by decide) (by decide)
 have hc01:cn=0∨cn=1:=by omega
 obtain ⟨k16,hk16⟩:∃ k16,(andZ .i64 k 16 == 0)=k16:=⟨_,rfl⟩
 obtain ⟨i0,hi0,hz0,hz1,hz2⟩:=info_parts infoItD
 have hq0:=hTl.q 0
 have hq1:=hTl.q 1
 have hARu:D.P.underlying 78=some (.array 2 3):=by rw [hP]; exact Tryz.underlying78
 obtain ⟨ia,hia,hia2⟩:∃ ia,D.P.info? 3=some ia∧ia.size=1:=by
  have h:(Tryz.prog.info? 3).map (fun i=>i.size)=some 1:=by kernel_rfl
  obtain ⟨ia,h1,h2⟩:=Option.map_eq_some_iff.1 h
  exact ⟨ia,by rw [hP]; exact h1,h2⟩
 rcases hc01 with rfl | rfl
 ·have w2:IntKind.i64.wrap (q 0+1)=q 0+1:=IntWalk.i64_in _ (by omega)
  simp (maxSteps:=1000000) only [VT,jg,jZ,qH,qI,qK,qN,qO,qP,qR,qS,qV,qX,qe,qp,ev,qy,qz,zD,zI,zJ,zM,↓reduceIte,reduceCtorEq,Nat.reduceEqDiff,Nat.reduceLT,zP,zQ,zR,zT,zW,zh,hP,hk,kp16,s0,s1,p0,p1,hrv,hcn]
  refine ⟨by decide,?_⟩
  refine zU9 (c:=1) (o:=0) (kd:=.i64) (j:=0) 1 hARu hia hia2 rfl rfl (by decide) (by decide) (by simp) ?_
  (refine zB0 hctr (rs:=res16) true 300 _ _ _ ?_; simp (maxSteps:=1000000) only [VT,qH,qI,qK,qP,qR,qS,qX,ev,qy,qz,zD,zM,↓reduceIte,Nat.reduceEqDiff,Nat.reduceLT,zR,zu,jN,hP,Nat.reduceMul,w2,Int.toNat_zero])
  refine zU9 (c:=1) (o:=0) (kd:=.i64) (j:=0) 1 hARu hia hia2 rfl rfl (by decide) (by decide) (by simp) ?_
  (refine zB0 hctr (rs:=res16) true 300 _ _ _ ?_; simp (maxSteps:=1000000) only [VT,qH,qJ,q0t,qv,ev,qy,zC,zD,zE,zG,zI,zJ,zM,↓reduceIte,reduceCtorEq,Nat.reduceEqDiff,zP,zQ,zt,zu,jN,hP,hk,kp16,Nat.reduceMul,Int.toNat_zero])
  have z1:∀ m,jW m (zB6 evC L)=true:=fun m=>zL2 (zI6 _ _)
  have hL1:zB6 evC (L++[⟨⟨1,now2,0,q 0+1,0,c,R.2,[]⟩,none,0,0⟩])=zB6 evC L++evS ⟨1,now2,0,q 0+1,0,c,R.2,[]⟩ none 0 0:=by rw [zH3,zI3]; rfl
  have hl1:(L++[(⟨⟨1,now2,0,q 0+1,0,c,R.2,[]⟩,none,0,0⟩:EvR)]).length=L.length+1:=by simp
  have z2:∀ m,jW m (zB6 evC L++[.i .i64 1,.i .i64 now2,.i .i64 0,.i .i64 (q 0+1),.i .i64 0,.i .i64 c.op,.i .i64 c.mode,.s c.key,.s c.val,.i .u32 c.flags,.i .i64 c.exp,.b c.hasExp,.i .u64 c.cas,.b c.hasCas,.i .u64 c.delta,.i .u64 c.init,.b c.down,.b c.viv,.i .i64 c.vive,.i .i64 c.recache,.b c.inval,.i .i64 R.2.st,.s R.2.it.key,.i .u32 R.2.it.flags,.s R.2.it.val,.i .i64 R.2.it.exp,.i .u64 R.2.it.cas,.i .i64 R.2.it.last,.b R.2.it.stale,.b R.2.it.won,.i .u64 R.2.num,.b R.2.w,.b R.2.x,.b R.2.z,.v (.slice none 0 0)])=true:=fun m=>by
   have:=zL2 (n:=m) (zI6 (· < m) (L++[(⟨⟨1,now2,0,q 0+1,0,c,R.2,[]⟩,none,0,0⟩:EvR)]))
   rw [hL1] at this; exact this
  obtain ⟨ie,hie,hze0,hze1,hze2⟩:=info_parts infoEv
  refine zT4 (sp := spA 78 2 1) hctr (by rw [hP]; rfl) rs16_16 [hap (some 3) 48 35 (L.length + 1) (zB6 evC L ++ [.i .i64 1, .i .i64 now2, .i .i64 0, .i .i64 (q 0 + 1), .i .i64 0, .i .i64 c.op, .i .i64 c.mode, .s c.key, .s c.val, .i .u32 c.flags, .i .i64 c.exp, .b c.hasExp, .i .u64 c.cas, .b c.hasCas, .i .u64 c.delta, .i .u64 c.init, .b c.down, .b c.viv, .i .i64 c.vive, .i .i64 c.recache, .b c.inval, .i .i64 R.2.st, .s R.2.it.key, .i .u32 R.2.it.flags, .s R.2.it.val, .i .i64 R.2.it.exp, .i .u64 R.2.it.cas, .i .i64 R.2.it.last, .b R.2.it.stale, .b R.2.it.won, .i .u64 R.2.num, .b R.2.w, .b R.2.x, .b R.2.z, .v (.slice none 0 0)])] (ensure_type_of% (Cmp.of (by simp (maxSteps := 1000000) only [qA, qB, qC, qD, qK, qO, qP, qX, qf, qg, q0t, ev, qy, qz, zA, zB, zC, zD, zE, zF, zG, zM, ↓reduceIte, reduceCtorEq, Nat.reduceEqDiff, Nat.reduceAdd, Nat.reduceLT, Nat.reduceLeDiff, zR, zT, zh, zk, zl, zt, zu, jA, hap, zF7, zA4, rwE, jC, jD, jF, jG, jJ, jK, jL, jM, jN, cX, spA, hP, hrc, p0, p1, hap, zF7, zA4, rwE, Int.toNat_zero, Nat.reduceAdd, cdS, Int.le_refl, Nat.reduceAdd, Nat.reduceMul]; rfl)) "" Cmp.mk) (by kernel_rfl) (by kernel_rfl) (by first | exact zA2 _ | kernel_rfl) (by kernel_rfl) (by rfl) (by rfl) (by first | exact zA0 _ | rfl) (by rfl) (spA_ok hARu hia hia2) (by simp (maxSteps := 1000000) only [qA, qB, qC, qD, qK, qO, qP, qX, qf, qg, q0t, ev, qw, qy, qz, zA, zB, zC, zD, zG, zM, ↓reduceIte, reduceCtorEq, Nat.reduceEqDiff, Nat.reduceAdd, Nat.reduceLT, Nat.reduceSub, Nat.reduceLeDiff, zR, zS, zT, zh, zk, zl, zm, zn, zq, zt, zu, jD, jF, jG, jN, jP, jQ, jR, jT, jU, ckX, ckXO, spA, hP, hrc, p0, p1, Int.toNat_zero, Nat.reduceAdd, cdS, Int.le_refl, Nat.reduceAdd, Nat.reduceMul]; exact And.intro (by decide) (zN0 (N := 8) (n := L.length) (m := 1) (z := 35) (bts := 296) (cells := zB6 evC L) (news := evS ⟨1, now2, 0, q 0 + 1, 0, c, R.2, []⟩ none 0 0) (o := some 3) (by rw [hP]; exact Tryz.underlying43) (by rw [hP]; exact hie) hze0 hze1 hze2 rfl (by decide) (by decide) (.some rfl) (zN7 (c := 7) (o := 0) (L := 35) rfl rfl) rfl rfl (fun pr => zR8 pr _ _ _ _) (by omega) (by omega) (by rw [dn]; decide) (fun q => mkC_nth (nE := 7) (i := 1) (fun k => by match k with | 0 => simp | 1 => simp | _ + 2 => simp)) rfl (fun q hq => by match q with | 0 => rfl | 1 => rfl | 2 => rfl | 3 => rfl | 4 => rfl | 5 => rfl | 6 => rfl | 7 => rfl | 8 => exact absurd rfl hq | _ + 9 => rfl))) ?_
  have hdone:Tl most (i+1) (n+1) ((L++[(⟨⟨1,now2,0,q 0+1,0,c,R.2,[]⟩,none,0,0⟩:EvR)]).map (·.e)) R.1 now2 (fun d=>if d=0 then q 0+1 else q d):=by
   have:=hTl.done (conn:=0) (now:=now2) (by omega) (by omega) (by omega) hcd (by decide) hR hst
   rw [List.map_append]; exact this
  cases hk9:k16 with
  | true =>
   subst hk9
   (refine zB0 hctr (rs:=res16) true 300 _ _ _ ?_; simp (maxSteps:=1000000) only [VT,jf,jd,qH,qI,qJ,qK,qO,qP,qR,qS,qp,q0t,qu,qv,ev,qy,qz,zA,zB,zC,zD,zE,zG,zH,zI,zJ,zM,↓reduceIte,reduceCtorEq,Nat.reduceEqDiff,Nat.reduceAdd,Nat.reduceLT,zP,zQ,zR,zV,zt,jN,jO,hP,hk,res16,kp16,Nat.reduceAdd,hk16,p3])
   refine hJ D (SameQ.refl D) ⟨⟨i+1,(L++[(⟨⟨1,now2,0,q 0+1,0,c,R.2,[]⟩,none,0,0⟩:EvR)]),R.1,now2,(fun d=>if d=0 then q 0+1 else q d),n+1,hdone,by omega⟩,by show i+1≤40; omega⟩ (by show 40 - (i+1) < 40 - i; omega) fun ρ' a' w' hr'=>?_
   have hend:=zP4 (L:=(L++[(⟨⟨1,now2,0,q 0+1,0,c,R.2,[]⟩,none,0,0⟩:EvR)])) (X:=R.1) (q:=(fun d=>if d=0 then q 0+1 else q d)) (sl':=toS (some ⟨cg,co,none⟩) Bs nl lc ns sc most (i+1) now2 ((L++[(⟨⟨1,now2,0,q 0+1,0,c,R.2,[]⟩,none,0,0⟩:EvR)])).length) hr' (hI.none (x:=⟨⟨1,now2,0,q 0+1,0,c,R.2,[]⟩,none,0,0⟩) rfl rfl rfl) dS dw (fun x h=>h) [0,1,4,8] rfl (by decide) (fun j t cells mu hj=>by
    match j with
    | 0 =>
     simp only [toE,zD,Option.some.injEq,EN.mk.injEq] at hj; obtain ⟨rfl,rfl,rfl⟩:=hj
     exact ⟨_,rfl,rfl,zC8 (by show 2 < 4; decide)⟩
    | 1 =>
     simp only [toE,zD,Option.some.injEq,EN.mk.injEq] at hj; obtain ⟨rfl,rfl,rfl⟩:=hj
     exact ⟨_,rfl,rfl,(by intro z hz; simp only [List.mem_cons,List.not_mem_nil,or_false] at hz; rcases hz with rfl | rfl <;> trivial)⟩
    | 2 =>
     simp only [toE,zD,owE,muE,Option.some.injEq,EN.mk.injEq] at hj; obtain ⟨rfl,rfl,rfl⟩:=hj
     exact ⟨_,rfl,(zC0 _ _).trans (zC0 _ _).symm,zF4 _ _⟩
    | 3 =>
     simp only [toE,zD,rwE,Option.some.injEq,EN.mk.injEq] at hj; obtain ⟨rfl,rfl,rfl⟩:=hj
     exact ⟨_,(by rw [hL1,hl1]; rfl),((zI7 _ ρ' _).trans (by rw [hL1]; rfl)),zI6 _ _⟩
    | j+4=>simp [toE,zD] at hj)
    (⟨⟨_,rfl,rfl,trivial⟩,⟨_,rfl,rfl,(by show 1 < 4; decide)⟩,⟨_,rfl,rfl,trivial⟩,⟨_,rfl,rfl,(by show 0 < 4; decide)⟩,⟨_,rfl,(by show zE9 (ρ' 8) (L++[(⟨⟨1,now2,0,q 0+1,0,c,R.2,[]⟩,none,0,0⟩:EvR)]).length=zE9 (ρ' 8) (L.length+1); rw [hl1]),(by show 3 < 4; decide)⟩,⟨_,rfl,rfl,trivial⟩,⟨_,rfl,rfl,trivial⟩,⟨_,rfl,rfl,trivial⟩,trivial⟩)
   rw [ddf] at hend
   exact hend
  | false =>
  subst hk9
  by_cases hrl:R.1.items.length=0
  ·have l0:((R.1.items.length:Int) == 0)=true:=by rw [beq_iff_eq]; omega
   (refine zB0 hctr (rs:=res16) true 300 _ _ _ ?_; simp (maxSteps:=1000000) only [VT,jf,jg,jZ,qH,qI,qJ,qK,qN,qO,qP,qR,qS,qV,qe,qp,q0t,qu,qv,ev,qy,qz,zA,zB,zC,zD,zE,zG,zH,zI,zJ,zM,↓reduceIte,reduceCtorEq,Nat.reduceEqDiff,Nat.reduceAdd,Nat.reduceLT,zP,zQ,zR,zV,zW,zt,zu,jN,jO,hP,hk,res16,kp16,Nat.reduceAdd,hk16,l0,p3])
   refine hJ D (SameQ.refl D) ⟨⟨i+1,(L++[(⟨⟨1,now2,0,q 0+1,0,c,R.2,[]⟩,none,0,0⟩:EvR)]),R.1,now2,(fun d=>if d=0 then q 0+1 else q d),n+1,hdone,by omega⟩,by show i+1≤40; omega⟩ (by show 40 - (i+1) < 40 - i; omega) fun ρ' a' w' hr'=>?_
   have hend:=zP4 (L:=(L++[(⟨⟨1,now2,0,q 0+1,0,c,R.2,[]⟩,none,0,0⟩:EvR)])) (X:=R.1) (q:=(fun d=>if d=0 then q 0+1 else q d)) (sl':=toS (some ⟨cg,co,none⟩) Bs nl lc ns sc most (i+1) now2 ((L++[(⟨⟨1,now2,0,q 0+1,0,c,R.2,[]⟩,none,0,0⟩:EvR)])).length) hr' (hI.none (x:=⟨⟨1,now2,0,q 0+1,0,c,R.2,[]⟩,none,0,0⟩) rfl rfl rfl) dS dw (fun x h=>h) [0,1,4,8] rfl (by decide) (fun j t cells mu hj=>by
    match j with
    | 0 =>
     simp only [toE,zD,Option.some.injEq,EN.mk.injEq] at hj; obtain ⟨rfl,rfl,rfl⟩:=hj
     exact ⟨_,rfl,rfl,zC8 (by show 2 < 4; decide)⟩
    | 1 =>
     simp only [toE,zD,Option.some.injEq,EN.mk.injEq] at hj; obtain ⟨rfl,rfl,rfl⟩:=hj
     exact ⟨_,rfl,rfl,(by intro z hz; simp only [List.mem_cons,List.not_mem_nil,or_false] at hz; rcases hz with rfl | rfl <;> trivial)⟩
    | 2 =>
     simp only [toE,zD,owE,muE,Option.some.injEq,EN.mk.injEq] at hj; obtain ⟨rfl,rfl,rfl⟩:=hj
     exact ⟨_,rfl,(zC0 _ _).trans (zC0 _ _).symm,zF4 _ _⟩
    | 3 =>
     simp only [toE,zD,rwE,Option.some.injEq,EN.mk.injEq] at hj; obtain ⟨rfl,rfl,rfl⟩:=hj
     exact ⟨_,(by rw [hL1,hl1]; rfl),((zI7 _ ρ' _).trans (by rw [hL1]; rfl)),zI6 _ _⟩
    | j+4=>simp [toE,zD] at hj)
    (⟨⟨_,rfl,rfl,trivial⟩,⟨_,rfl,rfl,(by show 1 < 4; decide)⟩,⟨_,rfl,rfl,trivial⟩,⟨_,rfl,rfl,(by show 0 < 4; decide)⟩,⟨_,rfl,(by show zE9 (ρ' 8) (L++[(⟨⟨1,now2,0,q 0+1,0,c,R.2,[]⟩,none,0,0⟩:EvR)]).length=zE9 (ρ' 8) (L.length+1); rw [hl1]),(by show 3 < 4; decide)⟩,⟨_,rfl,rfl,trivial⟩,⟨_,rfl,rfl,trivial⟩,⟨_,rfl,rfl,trivial⟩,trivial⟩)
   rw [ddf] at hend
   exact hend
  have l0:((R.1.items.length:Int) == 0)=false:=by rw [beq_eq_false_iff_ne]; omega
  obtain ⟨V,hV⟩:∃ V,zB1 R.1 now2=V:=⟨_,rfl⟩
  have hRl:R.1.items.length≤100000000:=by have:=hdone.nice.len; omega
  have hVl:V.items.length≤R.1.items.length:=by rw [← hV]; exact zR3 _ _
  (refine zB0 hctr (rs:=res16) true 300 _ _ _ ?_; simp (maxSteps:=1000000) only [VT,jg,jZ,qH,qI,qJ,qK,qN,qO,qP,qR,qS,qV,qe,qp,q0t,qu,qv,ev,qw,qy,qz,zA,zB,zC,zD,zE,zG,zI,zJ,zM,↓reduceIte,reduceCtorEq,Nat.reduceEqDiff,Nat.reduceAdd,Nat.reduceLT,zP,zQ,zR,zW,zt,zu,jN,jO,hP,hk,res16,kp16,noC,Nat.reduceAdd,hk16,l0])
  refine zE5 rfl (.g [.rw 9 V.items.length,.i .u64 V.cas,.i .i64 V.flush]) (zF _ (owE V.items)) (by rw [← hV]; exact reflv_h (M:=4) (N:=9) hP rfl hRl rfl (fun q=>by rw [zC7]; show (9≤q∧q < 9+1) ↔ q=9; omega) (by rw [dn]; decide) rfl (fun q h=>zC3 h)) (by rw [zC7]; omega) (by simp) ?_
  cases hVi:V.items with
  | nil =>
   have l1:(((0:Nat):Int) == 0)=true:=rfl
   (refine zB0 hctr (rs:=res16) true 300 _ _ _ ?_; simp (maxSteps:=1000000) only [VT,jf,qH,qI,qJ,qK,qN,qO,qP,qR,qS,qV,qe,q0t,qu,qv,ev,qy,qz,zC,zD,zE,zF,zG,zH,zI,zJ,zM,↓reduceIte,reduceCtorEq,Nat.reduceEqDiff,Nat.reduceAdd,Nat.reduceLT,zP,zQ,zR,zV,zl,zt,zu,jN,hP,hk,res16,kp16,Nat.reduceAdd,l1,p3])
   refine hJ D (SameQ.refl D) ⟨⟨i+1,(L++[(⟨⟨1,now2,0,q 0+1,0,c,R.2,[]⟩,none,0,0⟩:EvR)]),R.1,now2,(fun d=>if d=0 then q 0+1 else q d),n+1,hdone,by omega⟩,by show i+1≤40; omega⟩ (by show 40 - (i+1) < 40 - i; omega) fun ρ' a' w' hr'=>?_
   have hend:=zP4 (L:=(L++[(⟨⟨1,now2,0,q 0+1,0,c,R.2,[]⟩,none,0,0⟩:EvR)])) (X:=R.1) (q:=(fun d=>if d=0 then q 0+1 else q d)) (sl':=toS (some ⟨cg,co,none⟩) Bs nl lc ns sc most (i+1) now2 ((L++[(⟨⟨1,now2,0,q 0+1,0,c,R.2,[]⟩,none,0,0⟩:EvR)])).length) hr' (hI.none (x:=⟨⟨1,now2,0,q 0+1,0,c,R.2,[]⟩,none,0,0⟩) rfl rfl rfl) dS dw (fun x h=>h) [0,1,4,8] rfl (by decide) (fun j t cells mu hj=>by
    match j with
    | 0 =>
     simp only [toE,zD,Option.some.injEq,EN.mk.injEq] at hj; obtain ⟨rfl,rfl,rfl⟩:=hj
     exact ⟨_,rfl,rfl,zC8 (by show 2 < 4; decide)⟩
    | 1 =>
     simp only [toE,zD,Option.some.injEq,EN.mk.injEq] at hj; obtain ⟨rfl,rfl,rfl⟩:=hj
     exact ⟨_,rfl,rfl,(by intro z hz; simp only [List.mem_cons,List.not_mem_nil,or_false] at hz; rcases hz with rfl | rfl <;> trivial)⟩
    | 2 =>
     simp only [toE,zD,owE,muE,Option.some.injEq,EN.mk.injEq] at hj; obtain ⟨rfl,rfl,rfl⟩:=hj
     exact ⟨_,rfl,(zC0 _ _).trans (zC0 _ _).symm,zF4 _ _⟩
    | 3 =>
     simp only [toE,zD,rwE,Option.some.injEq,EN.mk.injEq] at hj; obtain ⟨rfl,rfl,rfl⟩:=hj
     exact ⟨_,(by rw [hL1,hl1]; rfl),((zI7 _ ρ' _).trans (by rw [hL1]; rfl)),zI6 _ _⟩
    | j+4=>simp [toE,zD] at hj)
    (⟨⟨_,rfl,rfl,trivial⟩,⟨_,rfl,rfl,(by show 1 < 4; decide)⟩,⟨_,rfl,rfl,trivial⟩,⟨_,rfl,rfl,(by show 0 < 4; decide)⟩,⟨_,rfl,(by show zE9 (ρ' 8) (L++[(⟨⟨1,now2,0,q 0+1,0,c,R.2,[]⟩,none,0,0⟩:EvR)]).length=zE9 (ρ' 8) (L.length+1); rw [hl1]),(by show 3 < 4; decide)⟩,⟨_,rfl,rfl,trivial⟩,⟨_,rfl,rfl,trivial⟩,⟨_,rfl,rfl,trivial⟩,trivial⟩)
   rw [ddf] at hend
   exact hend
  | cons x0 rest =>
  have l1:((V.items.length:Int) == 0)=false:=by rw [hVi,beq_eq_false_iff_ne,List.length_cons]; omega
  have l2:(0:Int) < (V.items.length:Int):=by rw [hVi,List.length_cons]; omega
  rw [← hVi]
  have hfl:zB6 itS V.items=.s x0.key :: ([.i .u32 x0.flags,.s x0.val,.i .i64 x0.exp,.i .u64 x0.cas,.i .i64 x0.last,.b x0.stale,.b x0.won]++zB6 itS rest):=by rw [hVi]; rfl
  have his:isF V.items x0.key=true:=by
   have hsV:Sorted V.items:=by rw [← hV]; exact zD6 _ hdone.nice.sorted
   rw [fE_is hsV,hVi]
   simp [fE]
  (refine zB0 hctr (rs:=res16) true 28 _ _ _ ?_; simp (maxSteps:=1000000) only [VT,jg,qA,qB,qC,qD,qH,qI,qJ,qK,qN,qO,qP,qR,qS,qV,qX,qe,qg,q0t,qu,qv,ev,qy,qz,zC,zD,zE,zF,zG,zI,zJ,zM,↓reduceIte,reduceCtorEq,Nat.reduceEqDiff,Nat.reduceAdd,Nat.reduceLT,Nat.reduceLeDiff,zP,zQ,zR,zT,zW,zt,zu,jN,hP,hk,res16,kp16,Int.le_refl,Nat.reduceAdd,Nat.reduceMul,l1,l2,hfl,owE,muE,Int.toNat_zero,Nat.zero_mul])
  have hR0:zB6 itS R.1.items ≠ []:=fun h=>by have:=zK4 itS_len R.1.items; rw [h] at this; simp at this; omega
  refine Run_W (M:=Nat) (I:=fun m ρ w'=>ToK w ((L++[(⟨⟨1,now2,0,q 0+1,0,c,R.2,[]⟩,none,0,0⟩:EvR)])++[(⟨⟨2,now2,0,0,0,Cd.zero,An.zero,[x0.key]⟩,some ⟨m,0,none⟩,1,1⟩:EvR)]) [⟨(25,0,whole),[.rw 2 R.1.items.length,.i .u64 R.1.cas,.i .i64 R.1.flush],true⟩,⟨(78,0,whole),[.i .i64 (q 0+1),.i .i64 (q 1)],true⟩,owE R.1.items,rwE 48 35 (L++[(⟨⟨1,now2,0,q 0+1,0,c,R.2,[]⟩,none,0,0⟩:EvR)]).length (zB6 evC (L++[(⟨⟨1,now2,0,q 0+1,0,c,R.2,[]⟩,none,0,0⟩:EvR)])),⟨(25,0,whole),[.rw 5 V.items.length,.i .u64 V.cas,.i .i64 V.flush],true⟩,owE V.items] ρ w') (sl':=fun m=>(111,.c (.v (.slice (some ⟨m,0,none⟩) 1 1))) :: (109,.c (.i .i64 now2)) :: (108,.c (.rw 3 (L++[(⟨⟨1,now2,0,q 0+1,0,c,R.2,[]⟩,none,0,0⟩:EvR)]).length)) :: (17,.c (.s x0.key)) :: (16,.c (.p 4 0)) :: [(11,.c (.i .i64 (i:Int))),(10,.c (.p 1 0)),(9,.c (.i .i64 now2)),(8,.c (.p 0 0)),(7,.c (.rw 3 (L++[(⟨⟨1,now2,0,q 0+1,0,c,R.2,[]⟩,none,0,0⟩:EvR)]).length)),(2,.c (.i .i64 most)),(1,.c (.v (.slice Bs ns sc))),(0,.c (.v (.slice (some ⟨cg,co,none⟩) nl lc)))]) (en':=fun _=>[⟨(25,0,whole),[.rw 2 R.1.items.length,.i .u64 R.1.cas,.i .i64 R.1.flush],true⟩,⟨(78,0,whole),[.i .i64 (q 0+1),.i .i64 (q 1)],true⟩,owE R.1.items,rwE 48 35 (L++[(⟨⟨1,now2,0,q 0+1,0,c,R.2,[]⟩,none,0,0⟩:EvR)]).length (zB6 evC (L++[(⟨⟨1,now2,0,q 0+1,0,c,R.2,[]⟩,none,0,0⟩:EvR)])),⟨(25,0,whole),[.rw 5 V.items.length,.i .u64 V.cas,.i .i64 V.flush],true⟩,owE V.items]) ?_ ?_
  ·intro ρ' a' w' hr'
   refine to_mid (sl2:=fun m=>(111,.c (.v (.slice (some ⟨m,0,none⟩) 1 1))) :: (109,.c (.i .i64 now2)) :: (108,.c (.rw 3 (L++[(⟨⟨1,now2,0,q 0+1,0,c,R.2,[]⟩,none,0,0⟩:EvR)]).length)) :: (17,.c (.s x0.key)) :: (16,.c (.p 4 0)) :: [(11,.c (.i .i64 (i:Int))),(10,.c (.p 1 0)),(9,.c (.i .i64 now2)),(8,.c (.p 0 0)),(7,.c (.rw 3 (L++[(⟨⟨1,now2,0,q 0+1,0,c,R.2,[]⟩,none,0,0⟩:EvR)]).length)),(2,.c (.i .i64 most)),(1,.c (.v (.slice Bs ns sc))),(0,.c (.v (.slice (some ⟨cg,co,none⟩) nl lc)))]) (key:=x0.key) hr' (hI.none (x:=⟨⟨1,now2,0,q 0+1,0,c,R.2,[]⟩,none,0,0⟩) rfl rfl rfl) dS dw [0,1,4,8,10,9] rfl rfl (by decide) (fun j t cells mu hj=>?_) rfl (by decide) (by decide) (fun hpre=>?_) ⟨2,now2,0,0,0,Cd.zero,An.zero,[x0.key]⟩ rfl
   ·match j with
    | 0 =>
     simp only [zD,Option.some.injEq,EN.mk.injEq] at hj; obtain ⟨rfl,rfl,rfl⟩:=hj
     exact ⟨_,rfl,rfl,zC8 (by show 2 < 6; decide),by decide,by simp⟩
    | 1 =>
     simp only [zD,Option.some.injEq,EN.mk.injEq] at hj; obtain ⟨rfl,rfl,rfl⟩:=hj
     exact ⟨_,rfl,rfl,(by intro z hz; simp only [List.mem_cons,List.not_mem_nil,or_false] at hz; rcases hz with rfl | rfl <;> trivial),by decide,by simp⟩
    | 2 =>
     simp only [zD,owE,muE,Option.some.injEq,EN.mk.injEq] at hj; obtain ⟨rfl,rfl,rfl⟩:=hj
     exact ⟨_,rfl,(zC0 _ _).trans (zC0 _ _).symm,zF4 _ _,by show ¬ (33:Nat)=zE8; decide,hR0⟩
    | 3 =>
     simp only [zD,rwE,Option.some.injEq,EN.mk.injEq] at hj; obtain ⟨rfl,rfl,rfl⟩:=hj
     exact ⟨_,by rw [hL1,hl1]; rfl,(zI7 _ ρ' _).trans (by rw [hL1]; rfl),zI6 _ _,by show ¬ (48:Nat)=zE8; decide,by simp⟩
    | 4 =>
     simp only [zD,Option.some.injEq,EN.mk.injEq] at hj; obtain ⟨rfl,rfl,rfl⟩:=hj
     exact ⟨_,rfl,rfl,zC8 (by show 5 < 6; decide),by decide,by simp⟩
    | 5 =>
     simp only [zD,owE,muE,Option.some.injEq,EN.mk.injEq] at hj; obtain ⟨rfl,rfl,rfl⟩:=hj
     exact ⟨_,rfl,((zC0 _ _).trans (zC0 ρ' _).symm).trans (by rw [hfl]),zF4 _ _,by show ¬ (33:Nat)=zE8; decide,by simp⟩
    | j+6=>simp [zD] at hj
   ·refine ⟨⟨_,rfl,?_,trivial⟩,⟨_,rfl,rfl,trivial⟩,⟨_,rfl,?_,(by show 3 < 6; decide)⟩,⟨_,rfl,rfl,trivial⟩,⟨_,rfl,rfl,(by show 4 < 6; decide)⟩,⟨_,rfl,rfl,trivial⟩,⟨_,rfl,rfl,(by show 1 < 6; decide)⟩,⟨_,rfl,rfl,trivial⟩,⟨_,rfl,rfl,(by show 0 < 6; decide)⟩,⟨_,rfl,?_,(by show 3 < 6; decide)⟩,⟨_,rfl,rfl,trivial⟩,⟨_,rfl,rfl,trivial⟩,⟨_,rfl,rfl,trivial⟩,trivial⟩
    ·simp only [SV.den,SC.den,hpre,List.length_nil,Nat.zero_add]
    ·show zE9 (ρ' 8) (L++[(⟨⟨1,now2,0,q 0+1,0,c,R.2,[]⟩,none,0,0⟩:EvR)]).length=zE9 (ρ' 8) (L.length+1)
     rw [hl1]
    ·show zE9 (ρ' 8) (L++[(⟨⟨1,now2,0,q 0+1,0,c,R.2,[]⟩,none,0,0⟩:EvR)]).length=zE9 (ρ' 8) (L.length+1)
     rw [hl1]
  rintro m ρ3 w3 _ hI3
  obtain ⟨G,hG⟩:∃ G,G=cxW D ρ3 w3 [⟨(25,0,whole),[.rw 2 R.1.items.length,.i .u64 R.1.cas,.i .i64 R.1.flush],true⟩,⟨(78,0,whole),[.i .i64 (q 0+1),.i .i64 (q 1)],true⟩,owE R.1.items,rwE 48 35 (L++[(⟨⟨1,now2,0,q 0+1,0,c,R.2,[]⟩,none,0,0⟩:EvR)]).length (zB6 evC (L++[(⟨⟨1,now2,0,q 0+1,0,c,R.2,[]⟩,none,0,0⟩:EvR)])),⟨(25,0,whole),[.rw 5 V.items.length,.i .u64 V.cas,.i .i64 V.flush],true⟩,owE V.items]:=⟨_,rfl⟩
  have hI3:ToK w ((L++[(⟨⟨1,now2,0,q 0+1,0,c,R.2,[]⟩,none,0,0⟩:EvR)])++[(⟨⟨2,now2,0,0,0,Cd.zero,An.zero,[x0.key]⟩,some ⟨m,0,none⟩,1,1⟩:EvR)]) [⟨(25,0,whole),[.rw 2 R.1.items.length,.i .u64 R.1.cas,.i .i64 R.1.flush],true⟩,⟨(78,0,whole),[.i .i64 (q 0+1),.i .i64 (q 1)],true⟩,owE R.1.items,rwE 48 35 (L++[(⟨⟨1,now2,0,q 0+1,0,c,R.2,[]⟩,none,0,0⟩:EvR)]).length (zB6 evC (L++[(⟨⟨1,now2,0,q 0+1,0,c,R.2,[]⟩,none,0,0⟩:EvR)])),⟨(25,0,whole),[.rw 5 V.items.length,.i .u64 V.cas,.i .i64 V.flush],true⟩,owE V.items] ρ3 w3:=hI3
  show Run (cxW D ρ3 w3 [⟨(25,0,whole),[.rw 2 R.1.items.length,.i .u64 R.1.cas,.i .i64 R.1.flush],true⟩,⟨(78,0,whole),[.i .i64 (q 0+1),.i .i64 (q 1)],true⟩,owE R.1.items,rwE 48 35 (L++[(⟨⟨1,now2,0,q 0+1,0,c,R.2,[]⟩,none,0,0⟩:EvR)]).length (zB6 evC (L++[(⟨⟨1,now2,0,q 0+1,0,c,R.2,[]⟩,none,0,0⟩:EvR)])),⟨(25,0,whole),[.rw 5 V.items.length,.i .u64 V.cas,.i .i64 V.flush],true⟩,owE V.items]) _ 122 ((111,.c (.v (.slice (some ⟨m,0,none⟩) 1 1))) :: (109,.c (.i .i64 now2)) :: (108,.c (.rw 3 (L++[(⟨⟨1,now2,0,q 0+1,0,c,R.2,[]⟩,none,0,0⟩:EvR)]).length)) :: (17,.c (.s x0.key)) :: (16,.c (.p 4 0)) :: [(11,.c (.i .i64 (i:Int))),(10,.c (.p 1 0)),(9,.c (.i .i64 now2)),(8,.c (.p 0 0)),(7,.c (.rw 3 (L++[(⟨⟨1,now2,0,q 0+1,0,c,R.2,[]⟩,none,0,0⟩:EvR)]).length)),(2,.c (.i .i64 most)),(1,.c (.v (.slice Bs ns sc))),(0,.c (.v (.slice (some ⟨cg,co,none⟩) nl lc)))]) [⟨(25,0,whole),[.rw 2 R.1.items.length,.i .u64 R.1.cas,.i .i64 R.1.flush],true⟩,⟨(78,0,whole),[.i .i64 (q 0+1),.i .i64 (q 1)],true⟩,owE R.1.items,rwE 48 35 (L++[(⟨⟨1,now2,0,q 0+1,0,c,R.2,[]⟩,none,0,0⟩:EvR)]).length (zB6 evC (L++[(⟨⟨1,now2,0,q 0+1,0,c,R.2,[]⟩,none,0,0⟩:EvR)])),⟨(25,0,whole),[.rw 5 V.items.length,.i .u64 V.cas,.i .i64 V.flush],true⟩,owE V.items]
  rw [← hG]
  have hPD:=hP; have hkD:=hk
  have hP:G.P=Tryz.prog:=by rw [hG]; exact hPD
  have hk:G.kp=kp16:=by rw [hG]; exact hkD
  have hctr:zE4 G noC:=zE6 hP
  have hSG:SameQ G D:=by rw [hG]; exact ⟨rfl,rfl,rfl,rfl⟩
  have gS:G.S=wrB ρ3 [⟨(25,0,whole),[.rw 2 R.1.items.length,.i .u64 R.1.cas,.i .i64 R.1.flush],true⟩,⟨(78,0,whole),[.i .i64 (q 0+1),.i .i64 (q 1)],true⟩,owE R.1.items,rwE 48 35 (L++[(⟨⟨1,now2,0,q 0+1,0,c,R.2,[]⟩,none,0,0⟩:EvR)]).length (zB6 evC (L++[(⟨⟨1,now2,0,q 0+1,0,c,R.2,[]⟩,none,0,0⟩:EvR)])),⟨(25,0,whole),[.rw 5 V.items.length,.i .u64 V.cas,.i .i64 V.flush],true⟩,owE V.items]:=by rw [hG]; rfl
  have gw:G.w0=w3:=by rw [hG]; rfl
  have gn:G.n0=6:=by rw [hG]; rfl
  have gdf:G.df=C.df:=by rw [hG]; exact ddf
  (refine zB0 hctr (rs:=res16) true 300 _ _ _ ?_; simp (maxSteps:=1000000) only [VT,qA,qB,qC,qD,qH,qI,qK,qN,qf,qg,q0t,ev,qy,qz,zC,zD,zF,zG,zM,↓reduceIte,Value.oneCell',Nat.reduceEqDiff,Nat.reduceAdd,Nat.reduceLT,Nat.reduceLeDiff,zR,zT,zk,zl,zt,rwE,hP,Nat.reduceAdd,Nat.reduceMul])
  have hL2:zB6 evC ((L++[(⟨⟨1,now2,0,q 0+1,0,c,R.2,[]⟩,none,0,0⟩:EvR)])++[(⟨⟨2,now2,0,0,0,Cd.zero,An.zero,[x0.key]⟩,some ⟨m,0,none⟩,1,1⟩:EvR)])=zB6 evC (L++[(⟨⟨1,now2,0,q 0+1,0,c,R.2,[]⟩,none,0,0⟩:EvR)])++evS ⟨2,now2,0,0,0,Cd.zero,An.zero,[x0.key]⟩ (some ⟨m,0,none⟩) 1 1:=by rw [zH3,zI3]; rfl
  have hl2:((L++[(⟨⟨1,now2,0,q 0+1,0,c,R.2,[]⟩,none,0,0⟩:EvR)])++[(⟨⟨2,now2,0,0,0,Cd.zero,An.zero,[x0.key]⟩,some ⟨m,0,none⟩,1,1⟩:EvR)]).length=(L++[(⟨⟨1,now2,0,q 0+1,0,c,R.2,[]⟩,none,0,0⟩:EvR)]).length+1:=by rw [List.length_append]; rfl
  have hLl:(L++[(⟨⟨1,now2,0,q 0+1,0,c,R.2,[]⟩,none,0,0⟩:EvR)]).length≤1000:=by rw [hl1]; omega
  refine zM2 (n:=(L++[(⟨⟨1,now2,0,q 0+1,0,c,R.2,[]⟩,none,0,0⟩:EvR)]).length) (m:=1) (z:=35) (bts:=296) (cells:=zB6 evC (L++[(⟨⟨1,now2,0,q 0+1,0,c,R.2,[]⟩,none,0,0⟩:EvR)])) (news:=evS ⟨2,now2,0,0,0,Cd.zero,An.zero,[x0.key]⟩ (some ⟨m,0,none⟩) 1 1) (o:=some 3) (X:=.rw 3 (L++[(⟨⟨1,now2,0,q 0+1,0,c,R.2,[]⟩,none,0,0⟩:EvR)]).length) (Y:=.sl 6 0 1 1) (by rw [hP]; exact Tryz.underlying43) (by rw [hP]; exact hie) hze0 hze1 hze2 rfl (by decide) (by decide) (.some rfl) rfl rfl (zN7 (c:=6) (o:=0) (L:=35) rfl rfl) rfl rfl (fun pr=>zR8 pr _ _ _ _) (by omega) (by omega) (by rw [gn]; show 6≤7; decide) rfl (by simp) ?_
  (refine zB0 hctr (rs:=res16) true 300 _ _ _ ?_; simp (maxSteps:=1000000) only [VT,qH,qI,qK,qO,qP,ev,qw,qy,zA,zB,zD,zE,zF,zG,zI,zJ,zM,↓reduceIte,reduceCtorEq,Nat.reduceEqDiff,Nat.reduceAdd,Nat.reduceLT,zP,zQ,zR,zt,zF7,zA4,rwE,jN,hP,hk,kp16,noC,Nat.reduceAdd,rwE,zF7,zA4])
  have hVl2:V.items.length≤100000000:=by omega
  have hsV2:Sorted V.items:=by rw [← hV]; exact zD6 _ hdone.nice.sorted
  refine zE5 rfl (.t [.g [.rw 8 (zG6 V x0.key).length,.i .u64 V.cas,.i .i64 V.flush],.c (.b (isF V.items x0.key))]) (zF _ (owE (zG6 V x0.key))) (dropc_h (M:=5) (N:=8) x0.key hP hsV2 hVl2 rfl rfl (fun q=>by rw [zC7]; show (8≤q∧q < 8+1) ↔ q=8; omega) (by rw [gn]; decide) rfl (fun q h=>zC3 h)) (by rw [zC7]; omega) (by simp) ?_
  (refine zB0 hctr (rs:=res16) true 300 _ _ _ ?_; simp (maxSteps:=1000000) only [VT,qH,qI,qJ,qK,qO,qR,qS,qh,q0t,qu,qv,ev,qy,qz,zC,zD,zE,zF,zG,zI,zJ,TE.sv,zM,↓reduceIte,reduceCtorEq,Nat.reduceEqDiff,Nat.reduceAdd,Nat.reduceLT,zP,zQ,zR,zt,jN,hP,hk,kp16,Nat.reduceAdd,his,p3])
  have hlost:Tl most (i+1) (n+2) (((L++[(⟨⟨1,now2,0,q 0+1,0,c,R.2,[]⟩,none,0,0⟩:EvR)])++[(⟨⟨2,now2,0,0,0,Cd.zero,An.zero,[x0.key]⟩,some ⟨m,0,none⟩,1,1⟩:EvR)]).map (·.e)) ⟨zG6 V x0.key,V.cas,V.flush⟩ now2 (fun d=>if d=0 then q 0+1 else q d):=by
   have:=hdone.lost (by omega) (key:=x0.key) (by rw [hV]; exact his)
   rw [hV] at this
   rw [List.map_append]; exact this
  refine hJ G hSG ⟨⟨i+1,((L++[(⟨⟨1,now2,0,q 0+1,0,c,R.2,[]⟩,none,0,0⟩:EvR)])++[(⟨⟨2,now2,0,0,0,Cd.zero,An.zero,[x0.key]⟩,some ⟨m,0,none⟩,1,1⟩:EvR)]),⟨zG6 V x0.key,V.cas,V.flush⟩,now2,(fun d=>if d=0 then q 0+1 else q d),n+2,hlost,by omega⟩,by show i+1≤40; omega⟩ (by show 40 - (i+1) < 40 - i; omega) fun ρ' a' w' hr'=>?_
  have hend:=zP4 (L:=((L++[(⟨⟨1,now2,0,q 0+1,0,c,R.2,[]⟩,none,0,0⟩:EvR)])++[(⟨⟨2,now2,0,0,0,Cd.zero,An.zero,[x0.key]⟩,some ⟨m,0,none⟩,1,1⟩:EvR)])) (X:=⟨zG6 V x0.key,V.cas,V.flush⟩) (q:=(fun d=>if d=0 then q 0+1 else q d)) (sl':=toS (some ⟨cg,co,none⟩) Bs nl lc ns sc most (i+1) now2 (((L++[(⟨⟨1,now2,0,q 0+1,0,c,R.2,[]⟩,none,0,0⟩:EvR)])++[(⟨⟨2,now2,0,0,0,Cd.zero,An.zero,[x0.key]⟩,some ⟨m,0,none⟩,1,1⟩:EvR)])).length) hr' hI3 gS gw (fun x h=>h) [0,1,8,7] rfl (by decide) (fun j t cells mu hj=>by
   match j with
   | 0 =>
    simp only [toE,zD,Option.some.injEq,EN.mk.injEq] at hj; obtain ⟨rfl,rfl,rfl⟩:=hj
    exact ⟨_,rfl,rfl,zC8 (by show 2 < 4; decide)⟩
   | 1 =>
    simp only [toE,zD,Option.some.injEq,EN.mk.injEq] at hj; obtain ⟨rfl,rfl,rfl⟩:=hj
    exact ⟨_,rfl,rfl,(by intro z hz; simp only [List.mem_cons,List.not_mem_nil,or_false] at hz; rcases hz with rfl | rfl <;> trivial)⟩
   | 2 =>
    simp only [toE,zD,owE,muE,Option.some.injEq,EN.mk.injEq] at hj; obtain ⟨rfl,rfl,rfl⟩:=hj
    exact ⟨_,rfl,(zC0 _ _).trans (zC0 _ _).symm,zF4 _ _⟩
   | 3 =>
    simp only [toE,zD,rwE,Option.some.injEq,EN.mk.injEq] at hj; obtain ⟨rfl,rfl,rfl⟩:=hj
    exact ⟨_,(by rw [hL2,hl2]; rfl),((zI7 _ ρ' _).trans (by rw [hL2])),zI6 _ _⟩
   | j+4=>simp [toE,zD] at hj)
   (⟨⟨_,rfl,rfl,trivial⟩,⟨_,rfl,rfl,(by show 1 < 4; decide)⟩,⟨_,rfl,rfl,trivial⟩,⟨_,rfl,rfl,(by show 0 < 4; decide)⟩,⟨_,rfl,(by show zE9 (ρ' 7) ((L++[(⟨⟨1,now2,0,q 0+1,0,c,R.2,[]⟩,none,0,0⟩:EvR)])++[(⟨⟨2,now2,0,0,0,Cd.zero,An.zero,[x0.key]⟩,some ⟨m,0,none⟩,1,1⟩:EvR)]).length=zE9 (ρ' 7) ((L++[(⟨⟨1,now2,0,q 0+1,0,c,R.2,[]⟩,none,0,0⟩:EvR)]).length+1); rw [hl2]),(by show 3 < 4; decide)⟩,⟨_,rfl,rfl,trivial⟩,⟨_,rfl,rfl,trivial⟩,⟨_,rfl,rfl,trivial⟩,trivial⟩)
  rw [gdf] at hend
  exact hend
 ·have w2:IntKind.i64.wrap (q 1+1)=q 1+1:=IntWalk.i64_in _ (by omega)
  simp (maxSteps:=1000000) only [VT,jg,jZ,qH,qI,qK,qN,qO,qP,qR,qS,qV,qX,qe,qp,ev,qy,qz,zD,zI,zJ,zM,↓reduceIte,reduceCtorEq,Nat.reduceEqDiff,Nat.reduceLT,zP,zQ,zR,zT,zW,zh,hP,hk,kp16,s0,s1,p0,p1,hrv,hcn]
  refine ⟨by decide,?_⟩
  refine zU9 (c:=1) (o:=0) (kd:=.i64) (j:=1) 1 hARu hia hia2 rfl rfl (by decide) (by decide) (by simp) ?_
  (refine zB0 hctr (rs:=res16) true 300 _ _ _ ?_; simp (maxSteps:=1000000) only [VT,qH,qI,qK,qP,qR,qS,qX,ev,qy,qz,zD,zM,↓reduceIte,Nat.reduceEqDiff,Nat.reduceLT,zR,zt,jN,hP,Nat.reduceMul,w2,Int.toNat_one])
  refine zU9 (c:=1) (o:=0) (kd:=.i64) (j:=1) 1 hARu hia hia2 rfl rfl (by decide) (by decide) (by simp) ?_
  (refine zB0 hctr (rs:=res16) true 300 _ _ _ ?_; simp (maxSteps:=1000000) only [VT,qH,qJ,q0t,qv,ev,qy,zC,zD,zE,zG,zI,zJ,zM,↓reduceIte,reduceCtorEq,Nat.reduceEqDiff,zP,zQ,zt,jN,hP,hk,kp16,Nat.reduceMul,Int.toNat_one])
  have z1:∀ m,jW m (zB6 evC L)=true:=fun m=>zL2 (zI6 _ _)
  have hL1:zB6 evC (L++[⟨⟨1,now2,1,q 1+1,0,c,R.2,[]⟩,none,0,0⟩])=zB6 evC L++evS ⟨1,now2,1,q 1+1,0,c,R.2,[]⟩ none 0 0:=by rw [zH3,zI3]; rfl
  have hl1:(L++[(⟨⟨1,now2,1,q 1+1,0,c,R.2,[]⟩,none,0,0⟩:EvR)]).length=L.length+1:=by simp
  have z2:∀ m,jW m (zB6 evC L++[.i .i64 1,.i .i64 now2,.i .i64 1,.i .i64 (q 1+1),.i .i64 0,.i .i64 c.op,.i .i64 c.mode,.s c.key,.s c.val,.i .u32 c.flags,.i .i64 c.exp,.b c.hasExp,.i .u64 c.cas,.b c.hasCas,.i .u64 c.delta,.i .u64 c.init,.b c.down,.b c.viv,.i .i64 c.vive,.i .i64 c.recache,.b c.inval,.i .i64 R.2.st,.s R.2.it.key,.i .u32 R.2.it.flags,.s R.2.it.val,.i .i64 R.2.it.exp,.i .u64 R.2.it.cas,.i .i64 R.2.it.last,.b R.2.it.stale,.b R.2.it.won,.i .u64 R.2.num,.b R.2.w,.b R.2.x,.b R.2.z,.v (.slice none 0 0)])=true:=fun m=>by
   have:=zL2 (n:=m) (zI6 (· < m) (L++[(⟨⟨1,now2,1,q 1+1,0,c,R.2,[]⟩,none,0,0⟩:EvR)]))
   rw [hL1] at this; exact this
  obtain ⟨ie,hie,hze0,hze1,hze2⟩:=info_parts infoEv
  refine zT4 (sp := spA 78 2 1) hctr (by rw [hP]; rfl) rs16_16 [hap (some 3) 48 35 (L.length + 1) (zB6 evC L ++ [.i .i64 1, .i .i64 now2, .i .i64 1, .i .i64 (q 1 + 1), .i .i64 0, .i .i64 c.op, .i .i64 c.mode, .s c.key, .s c.val, .i .u32 c.flags, .i .i64 c.exp, .b c.hasExp, .i .u64 c.cas, .b c.hasCas, .i .u64 c.delta, .i .u64 c.init, .b c.down, .b c.viv, .i .i64 c.vive, .i .i64 c.recache, .b c.inval, .i .i64 R.2.st, .s R.2.it.key, .i .u32 R.2.it.flags, .s R.2.it.val, .i .i64 R.2.it.exp, .i .u64 R.2.it.cas, .i .i64 R.2.it.last, .b R.2.it.stale, .b R.2.it.won, .i .u64 R.2.num, .b R.2.w, .b R.2.x, .b R.2.z, .v (.slice none 0 0)])] (ensure_type_of% (Cmp.of (by simp (maxSteps := 1000000) only [qA, qB, qC, qD, qK, qO, qP, qX, qf, qg, q0t, ev, qy, qz, zA, zB, zC, zD, zE, zF, zG, zM, ↓reduceIte, reduceCtorEq, Nat.reduceEqDiff, Nat.reduceAdd, Nat.reduceLT, Nat.reduceLeDiff, zR, zT, zh, zk, zl, zt, jA, hap, zF7, zA4, rwE, jC, jD, jF, jG, jJ, jK, jL, jM, jN, cX, spA, hP, hrc, p0, p1, hap, zF7, zA4, rwE, Int.toNat_one, Nat.reduceAdd, cdS, Nat.reduceAdd, Nat.reduceMul]; rfl)) "" Cmp.mk) (by kernel_rfl) (by kernel_rfl) (by first | exact zA2 _ | kernel_rfl) (by kernel_rfl) (by rfl) (by rfl) (by first | exact zA0 _ | rfl) (by rfl) (spA_ok hARu hia hia2) (by simp (maxSteps := 1000000) only [qA, qB, qC, qD, qK, qO, qP, qX, qf, qg, q0t, ev, qw, qy, qz, zA, zB, zC, zD, zG, zM, ↓reduceIte, reduceCtorEq, Nat.reduceEqDiff, Nat.reduceAdd, Nat.reduceLT, Nat.reduceSub, Nat.reduceLeDiff, zR, zS, zT, zh, zk, zl, zm, zn, zq, zt, jD, jF, jG, jN, jP, jQ, jR, jT, jU, ckX, ckXO, spA, hP, hrc, p0, p1, Int.toNat_one, Nat.reduceAdd, cdS, Nat.reduceAdd, Nat.reduceMul]; exact And.intro (by decide) (zN0 (N := 8) (n := L.length) (m := 1) (z := 35) (bts := 296) (cells := zB6 evC L) (news := evS ⟨1, now2, 1, q 1 + 1, 0, c, R.2, []⟩ none 0 0) (o := some 3) (by rw [hP]; exact Tryz.underlying43) (by rw [hP]; exact hie) hze0 hze1 hze2 rfl (by decide) (by decide) (.some rfl) (zN7 (c := 7) (o := 0) (L := 35) rfl rfl) rfl rfl (fun pr => zR8 pr _ _ _ _) (by omega) (by omega) (by rw [dn]; decide) (fun q => mkC_nth (nE := 7) (i := 1) (fun k => by match k with | 0 => simp | 1 => simp | _ + 2 => simp)) rfl (fun q hq => by match q with | 0 => rfl | 1 => rfl | 2 => rfl | 3 => rfl | 4 => rfl | 5 => rfl | 6 => rfl | 7 => rfl | 8 => exact absurd rfl hq | _ + 9 => rfl))) ?_
  have hdone:Tl most (i+1) (n+1) ((L++[(⟨⟨1,now2,1,q 1+1,0,c,R.2,[]⟩,none,0,0⟩:EvR)]).map (·.e)) R.1 now2 (fun d=>if d=1 then q 1+1 else q d):=by
   have:=hTl.done (conn:=1) (now:=now2) (by omega) (by omega) (by omega) hcd (by decide) hR hst
   rw [List.map_append]; exact this
  cases hk9:k16 with
  | true =>
   subst hk9
   (refine zB0 hctr (rs:=res16) true 300 _ _ _ ?_; simp (maxSteps:=1000000) only [VT,jf,jd,qH,qI,qJ,qK,qO,qP,qR,qS,qp,q0t,qu,qv,ev,qy,qz,zA,zB,zC,zD,zE,zG,zH,zI,zJ,zM,↓reduceIte,reduceCtorEq,Nat.reduceEqDiff,Nat.reduceAdd,Nat.reduceLT,zP,zQ,zR,zV,zt,jN,jO,hP,hk,res16,kp16,Nat.reduceAdd,hk16,p3])
   refine hJ D (SameQ.refl D) ⟨⟨i+1,(L++[(⟨⟨1,now2,1,q 1+1,0,c,R.2,[]⟩,none,0,0⟩:EvR)]),R.1,now2,(fun d=>if d=1 then q 1+1 else q d),n+1,hdone,by omega⟩,by show i+1≤40; omega⟩ (by show 40 - (i+1) < 40 - i; omega) fun ρ' a' w' hr'=>?_
   have hend:=zP4 (L:=(L++[(⟨⟨1,now2,1,q 1+1,0,c,R.2,[]⟩,none,0,0⟩:EvR)])) (X:=R.1) (q:=(fun d=>if d=1 then q 1+1 else q d)) (sl':=toS (some ⟨cg,co,none⟩) Bs nl lc ns sc most (i+1) now2 ((L++[(⟨⟨1,now2,1,q 1+1,0,c,R.2,[]⟩,none,0,0⟩:EvR)])).length) hr' (hI.none (x:=⟨⟨1,now2,1,q 1+1,0,c,R.2,[]⟩,none,0,0⟩) rfl rfl rfl) dS dw (fun x h=>h) [0,1,4,8] rfl (by decide) (fun j t cells mu hj=>by
    match j with
    | 0 =>
     simp only [toE,zD,Option.some.injEq,EN.mk.injEq] at hj; obtain ⟨rfl,rfl,rfl⟩:=hj
     exact ⟨_,rfl,rfl,zC8 (by show 2 < 4; decide)⟩
    | 1 =>
     simp only [toE,zD,Option.some.injEq,EN.mk.injEq] at hj; obtain ⟨rfl,rfl,rfl⟩:=hj
     exact ⟨_,rfl,rfl,(by intro z hz; simp only [List.mem_cons,List.not_mem_nil,or_false] at hz; rcases hz with rfl | rfl <;> trivial)⟩
    | 2 =>
     simp only [toE,zD,owE,muE,Option.some.injEq,EN.mk.injEq] at hj; obtain ⟨rfl,rfl,rfl⟩:=hj
     exact ⟨_,rfl,(zC0 _ _).trans (zC0 _ _).symm,zF4 _ _⟩
    | 3 =>
     simp only [toE,zD,rwE,Option.some.injEq,EN.mk.injEq] at hj; obtain ⟨rfl,rfl,rfl⟩:=hj
     exact ⟨_,(by rw [hL1,hl1]; rfl),((zI7 _ ρ' _).trans (by rw [hL1]; rfl)),zI6 _ _⟩
    | j+4=>simp [toE,zD] at hj)
    (⟨⟨_,rfl,rfl,trivial⟩,⟨_,rfl,rfl,(by show 1 < 4; decide)⟩,⟨_,rfl,rfl,trivial⟩,⟨_,rfl,rfl,(by show 0 < 4; decide)⟩,⟨_,rfl,(by show zE9 (ρ' 8) (L++[(⟨⟨1,now2,1,q 1+1,0,c,R.2,[]⟩,none,0,0⟩:EvR)]).length=zE9 (ρ' 8) (L.length+1); rw [hl1]),(by show 3 < 4; decide)⟩,⟨_,rfl,rfl,trivial⟩,⟨_,rfl,rfl,trivial⟩,⟨_,rfl,rfl,trivial⟩,trivial⟩)
   rw [ddf] at hend
   exact hend
  | false =>
  subst hk9
  by_cases hrl:R.1.items.length=0
  ·have l0:((R.1.items.length:Int) == 0)=true:=by rw [beq_iff_eq]; omega
   (refine zB0 hctr (rs:=res16) true 300 _ _ _ ?_; simp (maxSteps:=1000000) only [VT,jf,jg,jZ,qH,qI,qJ,qK,qN,qO,qP,qR,qS,qV,qe,qp,q0t,qu,qv,ev,qy,qz,zA,zB,zC,zD,zE,zG,zH,zI,zJ,zM,↓reduceIte,reduceCtorEq,Nat.reduceEqDiff,Nat.reduceAdd,Nat.reduceLT,zP,zQ,zR,zV,zW,zt,zu,jN,jO,hP,hk,res16,kp16,Nat.reduceAdd,hk16,l0,p3])
   refine hJ D (SameQ.refl D) ⟨⟨i+1,(L++[(⟨⟨1,now2,1,q 1+1,0,c,R.2,[]⟩,none,0,0⟩:EvR)]),R.1,now2,(fun d=>if d=1 then q 1+1 else q d),n+1,hdone,by omega⟩,by show i+1≤40; omega⟩ (by show 40 - (i+1) < 40 - i; omega) fun ρ' a' w' hr'=>?_
   have hend:=zP4 (L:=(L++[(⟨⟨1,now2,1,q 1+1,0,c,R.2,[]⟩,none,0,0⟩:EvR)])) (X:=R.1) (q:=(fun d=>if d=1 then q 1+1 else q d)) (sl':=toS (some ⟨cg,co,none⟩) Bs nl lc ns sc most (i+1) now2 ((L++[(⟨⟨1,now2,1,q 1+1,0,c,R.2,[]⟩,none,0,0⟩:EvR)])).length) hr' (hI.none (x:=⟨⟨1,now2,1,q 1+1,0,c,R.2,[]⟩,none,0,0⟩) rfl rfl rfl) dS dw (fun x h=>h) [0,1,4,8] rfl (by decide) (fun j t cells mu hj=>by
    match j with
    | 0 =>
     simp only [toE,zD,Option.some.injEq,EN.mk.injEq] at hj; obtain ⟨rfl,rfl,rfl⟩:=hj
     exact ⟨_,rfl,rfl,zC8 (by show 2 < 4; decide)⟩
    | 1 =>
     simp only [toE,zD,Option.some.injEq,EN.mk.injEq] at hj; obtain ⟨rfl,rfl,rfl⟩:=hj
     exact ⟨_,rfl,rfl,(by intro z hz; simp only [List.mem_cons,List.not_mem_nil,or_false] at hz; rcases hz with rfl | rfl <;> trivial)⟩
    | 2 =>
     simp only [toE,zD,owE,muE,Option.some.injEq,EN.mk.injEq] at hj; obtain ⟨rfl,rfl,rfl⟩:=hj
     exact ⟨_,rfl,(zC0 _ _).trans (zC0 _ _).symm,zF4 _ _⟩
    | 3 =>
     simp only [toE,zD,rwE,Option.some.injEq,EN.mk.injEq] at hj; obtain ⟨rfl,rfl,rfl⟩:=hj
     exact ⟨_,(by rw [hL1,hl1]; rfl),((zI7 _ ρ' _).trans (by rw [hL1]; rfl)),zI6 _ _⟩
    | j+4=>simp [toE,zD] at hj)
    (⟨⟨_,rfl,rfl,trivial⟩,⟨_,rfl,rfl,(by show 1 < 4; decide)⟩,⟨_,rfl,rfl,trivial⟩,⟨_,rfl,rfl,(by show 0 < 4; decide)⟩,⟨_,rfl,(by show zE9 (ρ' 8) (L++[(⟨⟨1,now2,1,q 1+1,0,c,R.2,[]⟩,none,0,0⟩:EvR)]).length=zE9 (ρ' 8) (L.length+1); rw [hl1]),(by show 3 < 4; decide)⟩,⟨_,rfl,rfl,trivial⟩,⟨_,rfl,rfl,trivial⟩,⟨_,rfl,rfl,trivial⟩,trivial⟩)
   rw [ddf] at hend
   exact hend
  have l0:((R.1.items.length:Int) == 0)=false:=by rw [beq_eq_false_iff_ne]; omega
  obtain ⟨V,hV⟩:∃ V,zB1 R.1 now2=V:=⟨_,rfl⟩
  have hRl:R.1.items.length≤100000000:=by have:=hdone.nice.len; omega
  have hVl:V.items.length≤R.1.items.length:=by rw [← hV]; exact zR3 _ _
  (refine zB0 hctr (rs:=res16) true 300 _ _ _ ?_; simp (maxSteps:=1000000) only [VT,jg,jZ,qH,qI,qJ,qK,qN,qO,qP,qR,qS,qV,qe,qp,q0t,qu,qv,ev,qw,qy,qz,zA,zB,zC,zD,zE,zG,zI,zJ,zM,↓reduceIte,reduceCtorEq,Nat.reduceEqDiff,Nat.reduceAdd,Nat.reduceLT,zP,zQ,zR,zW,zt,zu,jN,jO,hP,hk,res16,kp16,noC,Nat.reduceAdd,hk16,l0])
  refine zE5 rfl (.g [.rw 9 V.items.length,.i .u64 V.cas,.i .i64 V.flush]) (zF _ (owE V.items)) (by rw [← hV]; exact reflv_h (M:=4) (N:=9) hP rfl hRl rfl (fun q=>by rw [zC7]; show (9≤q∧q < 9+1) ↔ q=9; omega) (by rw [dn]; decide) rfl (fun q h=>zC3 h)) (by rw [zC7]; omega) (by simp) ?_
  cases hVi:V.items with
  | nil =>
   have l1:(((0:Nat):Int) == 0)=true:=rfl
   (refine zB0 hctr (rs:=res16) true 300 _ _ _ ?_; simp (maxSteps:=1000000) only [VT,jf,qH,qI,qJ,qK,qN,qO,qP,qR,qS,qV,qe,q0t,qu,qv,ev,qy,qz,zC,zD,zE,zF,zG,zH,zI,zJ,zM,↓reduceIte,reduceCtorEq,Nat.reduceEqDiff,Nat.reduceAdd,Nat.reduceLT,zP,zQ,zR,zV,zl,zt,zu,jN,hP,hk,res16,kp16,Nat.reduceAdd,l1,p3])
   refine hJ D (SameQ.refl D) ⟨⟨i+1,(L++[(⟨⟨1,now2,1,q 1+1,0,c,R.2,[]⟩,none,0,0⟩:EvR)]),R.1,now2,(fun d=>if d=1 then q 1+1 else q d),n+1,hdone,by omega⟩,by show i+1≤40; omega⟩ (by show 40 - (i+1) < 40 - i; omega) fun ρ' a' w' hr'=>?_
   have hend:=zP4 (L:=(L++[(⟨⟨1,now2,1,q 1+1,0,c,R.2,[]⟩,none,0,0⟩:EvR)])) (X:=R.1) (q:=(fun d=>if d=1 then q 1+1 else q d)) (sl':=toS (some ⟨cg,co,none⟩) Bs nl lc ns sc most (i+1) now2 ((L++[(⟨⟨1,now2,1,q 1+1,0,c,R.2,[]⟩,none,0,0⟩:EvR)])).length) hr' (hI.none (x:=⟨⟨1,now2,1,q 1+1,0,c,R.2,[]⟩,none,0,0⟩) rfl rfl rfl) dS dw (fun x h=>h) [0,1,4,8] rfl (by decide) (fun j t cells mu hj=>by
    match j with
    | 0 =>
     simp only [toE,zD,Option.some.injEq,EN.mk.injEq] at hj; obtain ⟨rfl,rfl,rfl⟩:=hj
     exact ⟨_,rfl,rfl,zC8 (by show 2 < 4; decide)⟩
    | 1 =>
     simp only [toE,zD,Option.some.injEq,EN.mk.injEq] at hj; obtain ⟨rfl,rfl,rfl⟩:=hj
     exact ⟨_,rfl,rfl,(by intro z hz; simp only [List.mem_cons,List.not_mem_nil,or_false] at hz; rcases hz with rfl | rfl <;> trivial)⟩
    | 2 =>
     simp only [toE,zD,owE,muE,Option.some.injEq,EN.mk.injEq] at hj; obtain ⟨rfl,rfl,rfl⟩:=hj
     exact ⟨_,rfl,(zC0 _ _).trans (zC0 _ _).symm,zF4 _ _⟩
    | 3 =>
     simp only [toE,zD,rwE,Option.some.injEq,EN.mk.injEq] at hj; obtain ⟨rfl,rfl,rfl⟩:=hj
     exact ⟨_,(by rw [hL1,hl1]; rfl),((zI7 _ ρ' _).trans (by rw [hL1]; rfl)),zI6 _ _⟩
    | j+4=>simp [toE,zD] at hj)
    (⟨⟨_,rfl,rfl,trivial⟩,⟨_,rfl,rfl,(by show 1 < 4; decide)⟩,⟨_,rfl,rfl,trivial⟩,⟨_,rfl,rfl,(by show 0 < 4; decide)⟩,⟨_,rfl,(by show zE9 (ρ' 8) (L++[(⟨⟨1,now2,1,q 1+1,0,c,R.2,[]⟩,none,0,0⟩:EvR)]).length=zE9 (ρ' 8) (L.length+1); rw [hl1]),(by show 3 < 4; decide)⟩,⟨_,rfl,rfl,trivial⟩,⟨_,rfl,rfl,trivial⟩,⟨_,rfl,rfl,trivial⟩,trivial⟩)
   rw [ddf] at hend
   exact hend
  | cons x0 rest =>
  have l1:((V.items.length:Int) == 0)=false:=by rw [hVi,beq_eq_false_iff_ne,List.length_cons]; omega
  have l2:(0:Int) < (V.items.length:Int):=by rw [hVi,List.length_cons]; omega
  rw [← hVi]
  have hfl:zB6 itS V.items=.s x0.key :: ([.i .u32 x0.flags,.s x0.val,.i .i64 x0.exp,.i .u64 x0.cas,.i .i64 x0.last,.b x0.stale,.b x0.won]++zB6 itS rest):=by rw [hVi]; rfl
  have his:isF V.items x0.key=true:=by
   have hsV:Sorted V.items:=by rw [← hV]; exact zD6 _ hdone.nice.sorted
   rw [fE_is hsV,hVi]
   simp [fE]
  (refine zB0 hctr (rs:=res16) true 28 _ _ _ ?_; simp (maxSteps:=1000000) only [VT,jg,qA,qB,qC,qD,qH,qI,qJ,qK,qN,qO,qP,qR,qS,qV,qX,qe,qg,q0t,qu,qv,ev,qy,qz,zC,zD,zE,zF,zG,zI,zJ,zM,↓reduceIte,reduceCtorEq,Nat.reduceEqDiff,Nat.reduceAdd,Nat.reduceLT,Nat.reduceLeDiff,zP,zQ,zR,zT,zW,zt,zu,jN,hP,hk,res16,kp16,Int.le_refl,Nat.reduceAdd,Nat.reduceMul,l1,l2,hfl,owE,muE,Int.toNat_zero,Nat.zero_mul])
  have hR0:zB6 itS R.1.items ≠ []:=fun h=>by have:=zK4 itS_len R.1.items; rw [h] at this; simp at this; omega
  refine Run_W (M:=Nat) (I:=fun m ρ w'=>ToK w ((L++[(⟨⟨1,now2,1,q 1+1,0,c,R.2,[]⟩,none,0,0⟩:EvR)])++[(⟨⟨2,now2,0,0,0,Cd.zero,An.zero,[x0.key]⟩,some ⟨m,0,none⟩,1,1⟩:EvR)]) [⟨(25,0,whole),[.rw 2 R.1.items.length,.i .u64 R.1.cas,.i .i64 R.1.flush],true⟩,⟨(78,0,whole),[.i .i64 (q 0),.i .i64 (q 1+1)],true⟩,owE R.1.items,rwE 48 35 (L++[(⟨⟨1,now2,1,q 1+1,0,c,R.2,[]⟩,none,0,0⟩:EvR)]).length (zB6 evC (L++[(⟨⟨1,now2,1,q 1+1,0,c,R.2,[]⟩,none,0,0⟩:EvR)])),⟨(25,0,whole),[.rw 5 V.items.length,.i .u64 V.cas,.i .i64 V.flush],true⟩,owE V.items] ρ w') (sl':=fun m=>(111,.c (.v (.slice (some ⟨m,0,none⟩) 1 1))) :: (109,.c (.i .i64 now2)) :: (108,.c (.rw 3 (L++[(⟨⟨1,now2,1,q 1+1,0,c,R.2,[]⟩,none,0,0⟩:EvR)]).length)) :: (17,.c (.s x0.key)) :: (16,.c (.p 4 0)) :: [(11,.c (.i .i64 (i:Int))),(10,.c (.p 1 0)),(9,.c (.i .i64 now2)),(8,.c (.p 0 0)),(7,.c (.rw 3 (L++[(⟨⟨1,now2,1,q 1+1,0,c,R.2,[]⟩,none,0,0⟩:EvR)]).length)),(2,.c (.i .i64 most)),(1,.c (.v (.slice Bs ns sc))),(0,.c (.v (.slice (some ⟨cg,co,none⟩) nl lc)))]) (en':=fun _=>[⟨(25,0,whole),[.rw 2 R.1.items.length,.i .u64 R.1.cas,.i .i64 R.1.flush],true⟩,⟨(78,0,whole),[.i .i64 (q 0),.i .i64 (q 1+1)],true⟩,owE R.1.items,rwE 48 35 (L++[(⟨⟨1,now2,1,q 1+1,0,c,R.2,[]⟩,none,0,0⟩:EvR)]).length (zB6 evC (L++[(⟨⟨1,now2,1,q 1+1,0,c,R.2,[]⟩,none,0,0⟩:EvR)])),⟨(25,0,whole),[.rw 5 V.items.length,.i .u64 V.cas,.i .i64 V.flush],true⟩,owE V.items]) ?_ ?_
  ·intro ρ' a' w' hr'
   refine to_mid (sl2:=fun m=>(111,.c (.v (.slice (some ⟨m,0,none⟩) 1 1))) :: (109,.c (.i .i64 now2)) :: (108,.c (.rw 3 (L++[(⟨⟨1,now2,1,q 1+1,0,c,R.2,[]⟩,none,0,0⟩:EvR)]).length)) :: (17,.c (.s x0.key)) :: (16,.c (.p 4 0)) :: [(11,.c (.i .i64 (i:Int))),(10,.c (.p 1 0)),(9,.c (.i .i64 now2)),(8,.c (.p 0 0)),(7,.c (.rw 3 (L++[(⟨⟨1,now2,1,q 1+1,0,c,R.2,[]⟩,none,0,0⟩:EvR)]).length)),(2,.c (.i .i64 most)),(1,.c (.v (.slice Bs ns sc))),(0,.c (.v (.slice (some ⟨cg,co,none⟩) nl lc)))]) (key:=x0.key) hr' (hI.none (x:=⟨⟨1,now2,1,q 1+1,0,c,R.2,[]⟩,none,0,0⟩) rfl rfl rfl) dS dw [0,1,4,8,10,9] rfl rfl (by decide) (fun j t cells mu hj=>?_) rfl (by decide) (by decide) (fun hpre=>?_) ⟨2,now2,0,0,0,Cd.zero,An.zero,[x0.key]⟩ rfl
   ·match j with
    | 0 =>
     simp only [zD,Option.some.injEq,EN.mk.injEq] at hj; obtain ⟨rfl,rfl,rfl⟩:=hj
     exact ⟨_,rfl,rfl,zC8 (by show 2 < 6; decide),by decide,by simp⟩
    | 1 =>
     simp only [zD,Option.some.injEq,EN.mk.injEq] at hj; obtain ⟨rfl,rfl,rfl⟩:=hj
     exact ⟨_,rfl,rfl,(by intro z hz; simp only [List.mem_cons,List.not_mem_nil,or_false] at hz; rcases hz with rfl | rfl <;> trivial),by decide,by simp⟩
    | 2 =>
     simp only [zD,owE,muE,Option.some.injEq,EN.mk.injEq] at hj; obtain ⟨rfl,rfl,rfl⟩:=hj
     exact ⟨_,rfl,(zC0 _ _).trans (zC0 _ _).symm,zF4 _ _,by show ¬ (33:Nat)=zE8; decide,hR0⟩
    | 3 =>
     simp only [zD,rwE,Option.some.injEq,EN.mk.injEq] at hj; obtain ⟨rfl,rfl,rfl⟩:=hj
     exact ⟨_,by rw [hL1,hl1]; rfl,(zI7 _ ρ' _).trans (by rw [hL1]; rfl),zI6 _ _,by show ¬ (48:Nat)=zE8; decide,by simp⟩
    | 4 =>
     simp only [zD,Option.some.injEq,EN.mk.injEq] at hj; obtain ⟨rfl,rfl,rfl⟩:=hj
     exact ⟨_,rfl,rfl,zC8 (by show 5 < 6; decide),by decide,by simp⟩
    | 5 =>
     simp only [zD,owE,muE,Option.some.injEq,EN.mk.injEq] at hj; obtain ⟨rfl,rfl,rfl⟩:=hj
     exact ⟨_,rfl,((zC0 _ _).trans (zC0 ρ' _).symm).trans (by rw [hfl]),zF4 _ _,by show ¬ (33:Nat)=zE8; decide,by simp⟩
    | j+6=>simp [zD] at hj
   ·refine ⟨⟨_,rfl,?_,trivial⟩,⟨_,rfl,rfl,trivial⟩,⟨_,rfl,?_,(by show 3 < 6; decide)⟩,⟨_,rfl,rfl,trivial⟩,⟨_,rfl,rfl,(by show 4 < 6; decide)⟩,⟨_,rfl,rfl,trivial⟩,⟨_,rfl,rfl,(by show 1 < 6; decide)⟩,⟨_,rfl,rfl,trivial⟩,⟨_,rfl,rfl,(by show 0 < 6; decide)⟩,⟨_,rfl,?_,(by show 3 < 6; decide)⟩,⟨_,rfl,rfl,trivial⟩,⟨_,rfl,rfl,trivial⟩,⟨_,rfl,rfl,trivial⟩,trivial⟩
    ·simp only [SV.den,SC.den,hpre,List.length_nil,Nat.zero_add]
    ·show zE9 (ρ' 8) (L++[(⟨⟨1,now2,1,q 1+1,0,c,R.2,[]⟩,none,0,0⟩:EvR)]).length=zE9 (ρ' 8) (L.length+1)
     rw [hl1]
    ·show zE9 (ρ' 8) (L++[(⟨⟨1,now2,1,q 1+1,0,c,R.2,[]⟩,none,0,0⟩:EvR)]).length=zE9 (ρ' 8) (L.length+1)
     rw [hl1]
  rintro m ρ3 w3 _ hI3
  obtain ⟨G,hG⟩:∃ G,G=cxW D ρ3 w3 [⟨(25,0,whole),[.rw 2 R.1.items.length,.i .u64 R.1.cas,.i .i64 R.1.flush],true⟩,⟨(78,0,whole),[.i .i64 (q 0),.i .i64 (q 1+1)],true⟩,owE R.1.items,rwE 48 35 (L++[(⟨⟨1,now2,1,q 1+1,0,c,R.2,[]⟩,none,0,0⟩:EvR)]).length (zB6 evC (L++[(⟨⟨1,now2,1,q 1+1,0,c,R.2,[]⟩,none,0,0⟩:EvR)])),⟨(25,0,whole),[.rw 5 V.items.length,.i .u64 V.cas,.i .i64 V.flush],true⟩,owE V.items]:=⟨_,rfl⟩
  have hI3:ToK w ((L++[(⟨⟨1,now2,1,q 1+1,0,c,R.2,[]⟩,none,0,0⟩:EvR)])++[(⟨⟨2,now2,0,0,0,Cd.zero,An.zero,[x0.key]⟩,some ⟨m,0,none⟩,1,1⟩:EvR)]) [⟨(25,0,whole),[.rw 2 R.1.items.length,.i .u64 R.1.cas,.i .i64 R.1.flush],true⟩,⟨(78,0,whole),[.i .i64 (q 0),.i .i64 (q 1+1)],true⟩,owE R.1.items,rwE 48 35 (L++[(⟨⟨1,now2,1,q 1+1,0,c,R.2,[]⟩,none,0,0⟩:EvR)]).length (zB6 evC (L++[(⟨⟨1,now2,1,q 1+1,0,c,R.2,[]⟩,none,0,0⟩:EvR)])),⟨(25,0,whole),[.rw 5 V.items.length,.i .u64 V.cas,.i .i64 V.flush],true⟩,owE V.items] ρ3 w3:=hI3
  show Run (cxW D ρ3 w3 [⟨(25,0,whole),[.rw 2 R.1.items.length,.i .u64 R.1.cas,.i .i64 R.1.flush],true⟩,⟨(78,0,whole),[.i .i64 (q 0),.i .i64 (q 1+1)],true⟩,owE R.1.items,rwE 48 35 (L++[(⟨⟨1,now2,1,q 1+1,0,c,R.2,[]⟩,none,0,0⟩:EvR)]).length (zB6 evC (L++[(⟨⟨1,now2,1,q 1+1,0,c,R.2,[]⟩,none,0,0⟩:EvR)])),⟨(25,0,whole),[.rw 5 V.items.length,.i .u64 V.cas,.i .i64 V.flush],true⟩,owE V.items]) _ 122 ((111,.c (.v (.slice (some ⟨m,0,none⟩) 1 1))) :: (109,.c (.i .i64 now2)) :: (108,.c (.rw 3 (L++[(⟨⟨1,now2,1,q 1+1,0,c,R.2,[]⟩,none,0,0⟩:EvR)]).length)) :: (17,.c (.s x0.key)) :: (16,.c (.p 4 0)) :: [(11,.c (.i .i64 (i:Int))),(10,.c (.p 1 0)),(9,.c (.i .i64 now2)),(8,.c (.p 0 0)),(7,.c (.rw 3 (L++[(⟨⟨1,now2,1,q 1+1,0,c,R.2,[]⟩,none,0,0⟩:EvR)]).length)),(2,.c (.i .i64 most)),(1,.c (.v (.slice Bs ns sc))),(0,.c (.v (.slice (some ⟨cg,co,none⟩) nl lc)))]) [⟨(25,0,whole),[.rw 2 R.1.items.length,.i .u64 R.1.cas,.i .i64 R.1.flush],true⟩,⟨(78,0,whole),[.i .i64 (q 0),.i .i64 (q 1+1)],true⟩,owE R.1.items,rwE 48 35 (L++[(⟨⟨1,now2,1,q 1+1,0,c,R.2,[]⟩,none,0,0⟩:EvR)]).length (zB6 evC (L++[(⟨⟨1,now2,1,q 1+1,0,c,R.2,[]⟩,none,0,0⟩:EvR)])),⟨(25,0,whole),[.rw 5 V.items.length,.i .u64 V.cas,.i .i64 V.flush],true⟩,owE V.items]
  rw [← hG]
  have hPD:=hP; have hkD:=hk
  have hP:G.P=Tryz.prog:=by rw [hG]; exact hPD
  have hk:G.kp=kp16:=by rw [hG]; exact hkD
  have hctr:zE4 G noC:=zE6 hP
  have hSG:SameQ G D:=by rw [hG]; exact ⟨rfl,rfl,rfl,rfl⟩
  have gS:G.S=wrB ρ3 [⟨(25,0,whole),[.rw 2 R.1.items.length,.i .u64 R.1.cas,.i .i64 R.1.flush],true⟩,⟨(78,0,whole),[.i .i64 (q 0),.i .i64 (q 1+1)],true⟩,owE R.1.items,rwE 48 35 (L++[(⟨⟨1,now2,1,q 1+1,0,c,R.2,[]⟩,none,0,0⟩:EvR)]).length (zB6 evC (L++[(⟨⟨1,now2,1,q 1+1,0,c,R.2,[]⟩,none,0,0⟩:EvR)])),⟨(25,0,whole),[.rw 5 V.items.length,.i .u64 V.cas,.i .i64 V.flush],true⟩,owE V.items]:=by rw [hG]; rfl
  have gw:G.w0=w3:=by rw [hG]; rfl
  have gn:G.n0=6:=by rw [hG]; rfl
  have gdf:G.df=C.df:=by rw [hG]; exact ddf
  (refine zB0 hctr (rs:=res16) true 300 _ _ _ ?_; simp (maxSteps:=1000000) only [VT,qA,qB,qC,qD,qH,qI,qK,qN,qf,qg,q0t,ev,qy,qz,zC,zD,zF,zG,zM,↓reduceIte,Value.oneCell',Nat.reduceEqDiff,Nat.reduceAdd,Nat.reduceLT,Nat.reduceLeDiff,zR,zT,zk,zl,zt,rwE,hP,Nat.reduceAdd,Nat.reduceMul])
  have hL2:zB6 evC ((L++[(⟨⟨1,now2,1,q 1+1,0,c,R.2,[]⟩,none,0,0⟩:EvR)])++[(⟨⟨2,now2,0,0,0,Cd.zero,An.zero,[x0.key]⟩,some ⟨m,0,none⟩,1,1⟩:EvR)])=zB6 evC (L++[(⟨⟨1,now2,1,q 1+1,0,c,R.2,[]⟩,none,0,0⟩:EvR)])++evS ⟨2,now2,0,0,0,Cd.zero,An.zero,[x0.key]⟩ (some ⟨m,0,none⟩) 1 1:=by rw [zH3,zI3]; rfl
  have hl2:((L++[(⟨⟨1,now2,1,q 1+1,0,c,R.2,[]⟩,none,0,0⟩:EvR)])++[(⟨⟨2,now2,0,0,0,Cd.zero,An.zero,[x0.key]⟩,some ⟨m,0,none⟩,1,1⟩:EvR)]).length=(L++[(⟨⟨1,now2,1,q 1+1,0,c,R.2,[]⟩,none,0,0⟩:EvR)]).length+1:=by rw [List.length_append]; rfl
  have hLl:(L++[(⟨⟨1,now2,1,q 1+1,0,c,R.2,[]⟩,none,0,0⟩:EvR)]).length≤1000:=by rw [hl1]; omega
  refine zM2 (n:=(L++[(⟨⟨1,now2,1,q 1+1,0,c,R.2,[]⟩,none,0,0⟩:EvR)]).length) (m:=1) (z:=35) (bts:=296) (cells:=zB6 evC (L++[(⟨⟨1,now2,1,q 1+1,0,c,R.2,[]⟩,none,0,0⟩:EvR)])) (news:=evS ⟨2,now2,0,0,0,Cd.zero,An.zero,[x0.key]⟩ (some ⟨m,0,none⟩) 1 1) (o:=some 3) (X:=.rw 3 (L++[(⟨⟨1,now2,1,q 1+1,0,c,R.2,[]⟩,none,0,0⟩:EvR)]).length) (Y:=.sl 6 0 1 1) (by rw [hP]; exact Tryz.underlying43) (by rw [hP]; exact hie) hze0 hze1 hze2 rfl (by decide) (by decide) (.some rfl) rfl rfl (zN7 (c:=6) (o:=0) (L:=35) rfl rfl) rfl rfl (fun pr=>zR8 pr _ _ _ _) (by omega) (by omega) (by rw [gn]; show 6≤7; decide) rfl (by simp) ?_
  (refine zB0 hctr (rs:=res16) true 300 _ _ _ ?_; simp (maxSteps:=1000000) only [VT,qH,qI,qK,qO,qP,ev,qw,qy,zA,zB,zD,zE,zF,zG,zI,zJ,zM,↓reduceIte,reduceCtorEq,Nat.reduceEqDiff,Nat.reduceAdd,Nat.reduceLT,zP,zQ,zR,zt,zF7,zA4,rwE,jN,hP,hk,kp16,noC,Nat.reduceAdd,rwE,zF7,zA4])
  have hVl2:V.items.length≤100000000:=by omega
  have hsV2:Sorted V.items:=by rw [← hV]; exact zD6 _ hdone.nice.sorted
  refine zE5 rfl (.t [.g [.rw 8 (zG6 V x0.key).length,.i .u64 V.cas,.i .i64 V.flush],.c (.b (isF V.items x0.key))]) (zF _ (owE (zG6 V x0.key))) (dropc_h (M:=5) (N:=8) x0.key hP hsV2 hVl2 rfl rfl (fun q=>by rw [zC7]; show (8≤q∧q < 8+1) ↔ q=8; omega) (by rw [gn]; decide) rfl (fun q h=>zC3 h)) (by rw [zC7]; omega) (by simp) ?_
  (refine zB0 hctr (rs:=res16) true 300 _ _ _ ?_; simp (maxSteps:=1000000) only [VT,qH,qI,qJ,qK,qO,qR,qS,qh,q0t,qu,qv,ev,qy,qz,zC,zD,zE,zF,zG,zI,zJ,TE.sv,zM,↓reduceIte,reduceCtorEq,Nat.reduceEqDiff,Nat.reduceAdd,Nat.reduceLT,zP,zQ,zR,zt,jN,hP,hk,kp16,Nat.reduceAdd,his,p3])
  have hlost:Tl most (i+1) (n+2) (((L++[(⟨⟨1,now2,1,q 1+1,0,c,R.2,[]⟩,none,0,0⟩:EvR)])++[(⟨⟨2,now2,0,0,0,Cd.zero,An.zero,[x0.key]⟩,some ⟨m,0,none⟩,1,1⟩:EvR)]).map (·.e)) ⟨zG6 V x0.key,V.cas,V.flush⟩ now2 (fun d=>if d=1 then q 1+1 else q d):=by
   have:=hdone.lost (by omega) (key:=x0.key) (by rw [hV]; exact his)
   rw [hV] at this
   rw [List.map_append]; exact this
  refine hJ G hSG ⟨⟨i+1,((L++[(⟨⟨1,now2,1,q 1+1,0,c,R.2,[]⟩,none,0,0⟩:EvR)])++[(⟨⟨2,now2,0,0,0,Cd.zero,An.zero,[x0.key]⟩,some ⟨m,0,none⟩,1,1⟩:EvR)]),⟨zG6 V x0.key,V.cas,V.flush⟩,now2,(fun d=>if d=1 then q 1+1 else q d),n+2,hlost,by omega⟩,by show i+1≤40; omega⟩ (by show 40 - (i+1) < 40 - i; omega) fun ρ' a' w' hr'=>?_
  have hend:=zP4 (L:=((L++[(⟨⟨1,now2,1,q 1+1,0,c,R.2,[]⟩,none,0,0⟩:EvR)])++[(⟨⟨2,now2,0,0,0,Cd.zero,An.zero,[x0.key]⟩,some ⟨m,0,none⟩,1,1⟩:EvR)])) (X:=⟨zG6 V x0.key,V.cas,V.flush⟩) (q:=(fun d=>if d=1 then q 1+1 else q d)) (sl':=toS (some ⟨cg,co,none⟩) Bs nl lc ns sc most (i+1) now2 (((L++[(⟨⟨1,now2,1,q 1+1,0,c,R.2,[]⟩,none,0,0⟩:EvR)])++[(⟨⟨2,now2,0,0,0,Cd.zero,An.zero,[x0.key]⟩,some ⟨m,0,none⟩,1,1⟩:EvR)])).length) hr' hI3 gS gw (fun x h=>h) [0,1,8,7] rfl (by decide) (fun j t cells mu hj=>by
   match j with
   | 0 =>
    simp only [toE,zD,Option.some.injEq,EN.mk.injEq] at hj; obtain ⟨rfl,rfl,rfl⟩:=hj
    exact ⟨_,rfl,rfl,zC8 (by show 2 < 4; decide)⟩
   | 1 =>
    simp only [toE,zD,Option.some.injEq,EN.mk.injEq] at hj; obtain ⟨rfl,rfl,rfl⟩:=hj
    exact ⟨_,rfl,rfl,(by intro z hz; simp only [List.mem_cons,List.not_mem_nil,or_false] at hz; rcases hz with rfl | rfl <;> trivial)⟩
   | 2 =>
    simp only [toE,zD,owE,muE,Option.some.injEq,EN.mk.injEq] at hj; obtain ⟨rfl,rfl,rfl⟩:=hj
    exact ⟨_,rfl,(zC0 _ _).trans (zC0 _ _).symm,zF4 _ _⟩
   | 3 =>
    simp only [toE,zD,rwE,Option.some.injEq,EN.mk.injEq] at hj; obtain ⟨rfl,rfl,rfl⟩:=hj
    exact ⟨_,(by rw [hL2,hl2]; rfl),((zI7 _ ρ' _).trans (by rw [hL2])),zI6 _ _⟩
   | j+4=>simp [toE,zD] at hj)
   (⟨⟨_,rfl,rfl,trivial⟩,⟨_,rfl,rfl,(by show 1 < 4; decide)⟩,⟨_,rfl,rfl,trivial⟩,⟨_,rfl,rfl,(by show 0 < 4; decide)⟩,⟨_,rfl,(by show zE9 (ρ' 7) ((L++[(⟨⟨1,now2,1,q 1+1,0,c,R.2,[]⟩,none,0,0⟩:EvR)])++[(⟨⟨2,now2,0,0,0,Cd.zero,An.zero,[x0.key]⟩,some ⟨m,0,none⟩,1,1⟩:EvR)]).length=zE9 (ρ' 7) ((L++[(⟨⟨1,now2,1,q 1+1,0,c,R.2,[]⟩,none,0,0⟩:EvR)]).length+1); rw [hl2]),(by show 3 < 4; decide)⟩,⟨_,rfl,rfl,trivial⟩,⟨_,rfl,rfl,trivial⟩,⟨_,rfl,rfl,trivial⟩,trivial⟩)
  rw [gdf] at hend
  exact hend
end Go.Proofs.YtfpeholdlkfmoaaGreatDoor
/- Arguments that are slices of whole numbers, opened (as the audit laws take them). -/
namespace Go.Proofs.YtfpeholdlkfmoaaGreatDoor
set_option linter.unusedSimpArgs false
set_option linter.unusedVariables false
open Go.ChangeShapes Go.WideShapes Go.ChangeAt Go.RowKit Go.Deep
set_option maxRecDepth 100000 in
theorem open_stps {H:Type} {enc:TypeId × Value→H} {W:World} {base:Nat} {v:Value} {d:DataW H} {ps:List MemPlace} (hv:Value.okWide Tryz.prog W .any base 41 v) (h:DataW.Trod enc Tryz.prog W 0 (fun _=>true) true 41 v d ps) :
  ∃ (A:Option Addr) (n c:Nat),v=.slice A n c∧n≤maxLen∧StepsAt W A n:=by
 obtain ⟨a0,len,cap,rfl⟩:=okWide_slice Tryz.underlying41 hv
 obtain ⟨fuel,hf⟩:=h
 obtain ⟨A,n,c,jB,hn,hel⟩:=open_nums Tryz.underlying41 Tryz.underlying3 (by kernel_rfl) hf
 have e0:Value.slice a0 len cap=.slice A n c:=by simpa [Value.cells] using jB
 refine ⟨A,n,c,e0,hn,fun k hk=>?_⟩
 obtain ⟨a,q,ha,hc,_⟩:=hel k hk
 obtain ⟨a',q',ha',hc',_⟩:=hel 0 (by omega)
 rw [ha] at ha'; cases ha'
 obtain ⟨b,o,rfl,hb⟩:=zZ6 hc'
 refine ⟨b,o,q,ha,hb,?_⟩
 rw [Go.WideShapes.add_plain] at hc
 exact hc
end Go.Proofs.YtfpeholdlkfmoaaGreatDoor
/- Events that a store told, as Check takes them; Check and Same as contracts on raw places. -/
namespace Go.Proofs.YtfpeholdlkfmoaaGreatDoor
set_option linter.unusedSimpArgs false
set_option linter.unusedVariables false
open Go.RowKit
set_option maxRecDepth 100000
theorem zX8 {k:Nat} {X Y:St} {ks:List (List UInt8)} (h:NiceV k X) (hd:zF8 X ks=some Y):NiceV k Y:=by
 obtain ⟨a1,a2,_,_,a5⟩:=zO6 hd
 exact ⟨a5 h.sorted,Nat.le_trans a2 h.len,fun x hx=>h.bd x (a1 x hx)⟩
theorem goes_nice {k:Nat} {W W':Au} {e:Ev} (h:NiceV k W.X) (hc:CdOk e.cmd) (hg:zD7 W e=some W'):NiceV (k+1) W'.X:=by
 unfold zD7 at hg
 split at hg
 ·cases hg
 split at hg
 ·cases hg
 split at hg
 ·cases hg
 rename_i s hs
 have hn:=zX8 (h.live e.now) hs
 have hm:=hn.mono (Nat.le_succ k)
 split at hg
 ·split at hg
  ·cases hg; exact hm
  ·cases hg
 split at hg
 ·split at hg
  ·cases hg
  split at hg
  ·cases hg
  split at hg
  ·split at hg
   ·cases hg; exact hm
   ·cases hg
  split at hg
  ·cases hg; exact nice_step hn hc
  ·cases hg
 ·cases hg
theorem inv_of {xs:List EvR} {most:Int} (hl:xs.length≤100) (hc:∀ x∈xs,CdOk x.e.cmd):∃ Inv:Nat→Au→Prop,Inv 0 (au0 most)∧(∀ i W x W',Inv i W→xs[i]?=some x→zD7 W x.e=some W'→Inv (i+1) W')∧∀ i W x,Inv i W→xs[i]?=some x→GoOk W x.e:=by
 refine ⟨fun i W=>NiceV i W.X,⟨Sorted.nil,Nat.le_refl _,fun x hx=>nomatch hx⟩,fun i W x W' hI hx hg=>goes_nice hI (hc x (List.mem_of_getElem? hx)) hg,fun i W x hI hx=>?_⟩
 have hi:=(List.getElem?_eq_some_iff.1 hx).1
 exact hI.goOk (by omega) (hc x (List.mem_of_getElem? hx))
theorem run_pre {W W':Au}:∀ {a b:List Ev} {i:Nat},zH7 W (a++b) i=(W',-1)→∃ W2,zH7 W a i=(W2,-1):=by
 intro a
 induction a generalizing W with
 | nil=>intro b i _; exact ⟨W,rfl⟩
 | cons x r ih =>
  intro b i h
  simp only [List.cons_append,zH7] at h ⊢
  cases hx:zD7 W x with
  | none=>rw [hx] at h; simp only [Prod.mk.injEq] at h; omega
  | some W2=>rw [hx] at h; exact ih h
theorem Tl.cd {most:Int} {k n:Nat} {qw:List Ev} {X:St} {now:Int} {q:Int→Int} (h:Tl most k n qw X now q):∀ e∈qw,CdOk e.cmd:=by
 intro e he
 obtain ⟨i,hi,rfl⟩:=List.getElem_of_mem he
 obtain ⟨now',tn,hr,_⟩:=h.run
 have hr2:=hr
 rw [← List.take_append_drop i qw] at hr2
 obtain ⟨W2,h2⟩:=run_pre hr2
 exact (h.ok i _ (List.getElem?_eq_getElem hi) W2 h2).cd
theorem Evs.of {w:World} {a:Option Addr} {n:Nat} {xs:List EvR} {most:Int} (hr:RawEv w a xs) (hn:n=xs.length) (hl:xs.length≤100) (hc:∀ x∈xs,CdOk x.e.cmd) (hE:Env w):Evs w a n xs most:=⟨hr,hn,by omega,hE,inv_of hl hc⟩
theorem ToI.cd {most:Int} (t:ToI most):∀ x∈t.L,CdOk x.e.cmd:=fun x hx=>t.h.cd x.e (List.mem_map.2 ⟨x,hx,rfl⟩)
theorem ToI.len {most:Int} (t:ToI most) (hi:t.i≤40):t.L.length≤80:=by
 have:=t.h.len; rw [List.length_map] at this; have:=t.hn; omega
theorem RawEv.take {w:World} {a:Option Addr} {xs:List EvR} (h:RawEv w a xs) (n:Nat):RawEv w a (xs.take n):=fun k x hx=>by
 rw [List.getElem?_take] at hx
 split at hx
 ·exact h k x hx
 ·cases hx
theorem flat_ev {w:World} {g:Nat} {t:TypeId} {m:Nat × Nat} {ρ:Nat→RE} {xs:List EvR} {post:List Value} (hwd:w.heap[g]?=some (.cells (zC1 ρ (zB6 evC xs)++post).toArray t m)) {k:Nat} {x:EvR} (hx:xs[k]?=some x) {j:Nat} {v:Value} (hv:(evA x.e x.la x.ln x.lc)[j]?=some v):w.cell? ⟨g,0+k * 35+j,none⟩=some v:=by
 have hj:j < 35:=by have:=(Array.getElem?_eq_some_iff.1 hv).1; exact this
 obtain ⟨s1,s2⟩:=zX2 zQ3 hx
 rw [Nat.zero_add,Go.cell_of_row w _ (k * 35+j) _ _ _ hwd]
 simp only [List.getElem?_toArray]
 have hdl:(zC1 ρ (zB6 evC xs))[k * 35+j]?=some v:=by
  rw [s1,List.append_assoc,zC1,List.map_append,List.getElem?_append_right (by rw [List.length_map,s2]; omega),List.length_map,s2,Nat.add_sub_cancel_left,List.map_append,List.getElem?_append_left (by rw [List.length_map,zQ3]; exact hj)]
  rw [← hv,evA,List.getElem?_toArray]; rfl
 rw [List.getElem?_append_left (by have:=(List.getElem?_eq_some_iff.1 hdl).1; exact this)]
 exact hdl
theorem RawEv.of {w:World} {g:Nat} {t:TypeId} {m:Nat × Nat} {ρ:Nat→RE} {xs:List EvR} {post:List Value} (hwd:w.heap[g]?=some (.cells (zC1 ρ (zB6 evC xs)++post).toArray t m)) (hK:∀ x∈xs,LosK w x):RawEv w (some ⟨g,0,none⟩) xs:=fun k x hx =>
 ⟨g,0,rfl,(Array.getElem?_eq_some_iff.1 hwd).1,fun _ _ hv=>flat_ev hwd hx hv,hK x (List.mem_of_getElem? hx)⟩
theorem raw_row {w:World} {b:Nat} {r:RE} {ρ:Nat→RE} {xs:List EvR} (h:RowOk b w r 48 35 xs.length (zC1 ρ (zB6 evC xs))) (hK:∀ x∈xs,LosK w x):∃ a c,zE9 r xs.length=.slice a xs.length c∧RawEv w a xs:=by
 obtain ⟨_,⟨_,hO⟩,hh,_⟩:=h
 rcases hO with ⟨h1,h2,_⟩ | ⟨h1,h2,_⟩
 ·have hb:=hh h1
  rw [h2,List.nil_append] at hb
  exact ⟨some ⟨r.blk,0,none⟩,r.cap,by unfold zE9; rw [h1],RawEv.of hb hK⟩
 ·have hx:xs=[]:=List.eq_nil_of_length_eq_zero h2
  subst hx
  exact ⟨none,0,by unfold zE9; rw [h1],fun k x hx=>by simp at hx⟩
theorem los_none {w:World} {e:Ev} (h:e.lost=[]):LosK w ⟨e,none,0,0⟩:=⟨fun k s hk=>by rw [h] at hk; simp at hk,by rw [h]; rfl,Nat.zero_le _,fun a' ha=>nomatch ha⟩
theorem los_one {w:World} {e:Ev} {k:List UInt8} {g:Nat} {t:TypeId} {m:Nat × Nat} {post:List Value} (h:e.lost=[k]) (hb:w.heap[g]?=some (.cells (.string ⟨k.toArray⟩ :: post).toArray t m)) {c:Nat}:LosK w ⟨e,some ⟨g,0,none⟩,1,c⟩:=by
 have hl:=(Array.getElem?_eq_some_iff.1 hb).1
 refine ⟨fun i s hi=>?_,by rw [h]; rfl,by show 1≤9223372036854775807; omega,fun a' ha=>by cases ha; exact hl⟩
 rw [h] at hi
 match i with
 | 0 =>
  simp only [List.getElem?_cons_zero,Option.some.injEq] at hi; subst hi
  exact ⟨g,0,rfl,hl,by rw [Go.cell_of_row w _ _ _ _ _ hb]; rfl⟩
 | i+1=>simp at hi
def CkP (w0:World) (V:Option Addr→Nat→Int) (a:Option Addr) (n:Nat) (m:Int):Prop:=∃ xs,Evs w0 a n xs m∧(zH7 (au0 m) (xs.map (·.e)) 0).2=V a n
def SrP (w0:World) (a:Option Addr) (n:Nat) (b:Option Addr) (m:Nat):Prop:=∃ X:List It,RawI w0 a X∧RawI w0 b X∧X.length=n∧X.length=m∧X.length≤100000000
def rowCk (w0:World) (V:Option Addr→Nat→Int):List SV→Option (Prop × SV)
 | [.c (.v (.slice a n _)),.c (.i .i64 m)]=>some (CkP w0 V a n m,.c (.i .i64 (V a n)))
 | _=>none
def rowSr (w0:World):List SV→Option (Prop × SV)
 | [.g [.v (.slice a n _),.i .u64 c1,.i .i64 f1],.g [.v (.slice b m _),.i .u64 c2,.i .i64 f2]]=>some (SrP w0 a n b m∧c1=c2∧f1=f2,.c (.b true))
 | _=>none
def auC (w0:World) (V:Option Addr→Nat→Int):Ctr:=fun f _ xs=>match f with
 | 15=>rowCk w0 V xs
 | 13=>rowSr w0 xs
 | _=>none
theorem auC_ok {C:Cx} {w0:World} {V:Option Addr→Nat→Int} (hP:C.P=Tryz.prog) (hU:∀ w',Upd C.S C.w0 w'→Upd Non w0 w'):zE4 C (auC w0 V):=by
 intro f en xs p v h hp ρ w' hup hHp hHo hinj hwf
 have hu:=hU w' hup
 unfold auC at h
 split at h
 ·rw [hP]
  refine ⟨fun args w=>Tryz.call15 args w,?_⟩
  unfold rowCk at h
  split at h <;> simp only [Option.some.injEq,Prod.mk.injEq,reduceCtorEq] at h
  obtain ⟨rfl,rfl⟩:=h
  obtain ⟨xs,h1,h2⟩:=hp
  refine ⟨trivial,(check_w (h1.upd hu)).mono ?_⟩
  rintro e w2 ⟨rfl,hb⟩
  rw [h2]
  exact ⟨rfl,hb⟩
 ·rw [hP]
  refine ⟨fun args w=>Tryz.call13 args w,?_⟩
  unfold rowSr at h
  split at h <;> simp only [Option.some.injEq,Prod.mk.injEq,reduceCtorEq] at h
  obtain ⟨rfl,rfl⟩:=h
  obtain ⟨⟨X,r1,r2,rfl,rfl,h3⟩,rfl,rfl⟩:=hp
  exact ⟨trivial,same_raw X _ _ _ _ _ _ w' (r1.below hu.to_below) (r2.below hu.to_below) h3⟩
 ·cases h
section
variable {C:Cx} {nt:Nat} {sl:List (Nat × SV)} {en:List EN} {k:List KI}
theorem zM1 {ρ:Nat→RE} {w:World} {c:Nat} {t:TypeId} {cells:List SC} {mu:Bool} (hw:Hw C ρ (· < en.length) en w) (h:zD en c=some ⟨(t,0,whole),cells,mu⟩) (hne:cells ≠ []) (ht:t ≠ zE8) :
  (ρ c).pre=[]∧w.heap[(ρ c).blk]?=some (.cells (zC1 ρ cells).toArray t (0,0)):=by
 have l:c < en.length:=by have:=zK0 h; rwa [zB9] at this
 have g:=hw.hp c _ _ _ l h
 obtain ⟨_,hpre,hpost⟩:=hw.ho c _ _ _ l h
 have hnl:(ρ c).nl=none:=by
  cases hx:(ρ c).nl with
  | none=>rfl
  | some p=>exact absurd (g.non (by rw [hx]; exact fun h=>nomatch h)) hne
 have hb:=g.heap ⟨ht,hnl⟩
 rw [hpre,hpost,List.nil_append,List.append_nil] at hb
 exact ⟨hpre,hb⟩
theorem ent_ne {ρ:Nat→RE} {w:World} {c d:Nat} {t t':TypeId} {cells cells':List SC} {mu mu':Bool} (hw:Hw C ρ (· < en.length) en w) (h:zD en c=some ⟨(t,0,whole),cells,mu⟩) (hne:cells ≠ []) (ht:t ≠ zE8) (h':zD en d=some ⟨(t',0,whole),cells',mu'⟩) (hne':cells' ≠ []) (ht':t' ≠ zE8) (hcd:c ≠ d):(ρ c).blk ≠ (ρ d).blk:=by
 have l:c < en.length:=by have:=zK0 h; rwa [zB9] at this
 have l':d < en.length:=by have:=zK0 h'; rwa [zB9] at this
 have hn:(ρ c).nl=none:=by
  cases hx:(ρ c).nl with
  | none=>rfl
  | some p=>exact absurd ((hw.hp c _ _ _ l h).non (by rw [hx]; exact fun h=>nomatch h)) hne
 have hn':(ρ d).nl=none:=by
  cases hx:(ρ d).nl with
  | none=>rfl
  | some p=>exact absurd ((hw.hp d _ _ _ l' h').non (by rw [hx]; exact fun h=>nomatch h)) hne'
 exact fun hb=>hcd (hw.inj _ _ l l' ((zB4 h).2 ⟨ht,hn⟩) ((zB4 h').2 ⟨ht',hn'⟩) hb)
theorem Run_callWG {M:Type} {I:M→(Nat→RE)→World→Prop} {sl':M→List (Nat × SV)} {en':M→List EN} {dst:Option Nat} {f:FuncId} {args:Array Operand} {tys:Array TypeId} {ty:TypeId} {pos:String} {af:Array Edge} {all r:List Oper} {xs:List SV} {gd:Option (Nat × Bool)} (hg:gdT all sl gd=true) (hxs:qw sl args.toList=some xs)
  (hent:∀ args w,(callFunc f args).run C.P w=.ok (.enter f args) w)
  (hI:∀ ρ a w,Rep C ρ nt sl en a w→Calls C.P f (xs.map (SV.den ρ)).toArray w fun e w'=>∃ m ρ' v,e=.returned v∧Wt C.df ρ' nt (sl' m) (en' m) (a.put dst v) w'∧I m ρ' w')
  (h:∀ m ρ w,(∃ a,Wt C.df ρ nt (sl' m) (en' m) a w)→I m ρ w→Run (cxW C ρ w (en' m)) (.ops all r :: k) nt (sl' m) (en' m)) :
  Run C (.ops all (⟨dst,.call ⟨.value (.func f),args,tys⟩,ty,pos,af,gd⟩ :: r) :: k) nt sl en:=by
 refine Run_ocall hxs hg hent fun ρ a w hr g2=>(hI ρ a w hr).mono ?_
 rintro e w' ⟨m,ρ',v,rfl,h1,h2⟩
 have:=h m ρ' w' ⟨_,h1⟩ h2 ρ' _ w' h1.rep
 rw [show KQ (cxW C ρ' w' (en' m)) (.ops all r :: k)=KQ C (.ops all r :: k) from zI5 (C:=C) (D:=cxW C ρ' w' (en' m)) rfl rfl _] at this
 exact .inl ⟨_,rfl,this⟩
end
end Go.Proofs.YtfpeholdlkfmoaaGreatDoor
