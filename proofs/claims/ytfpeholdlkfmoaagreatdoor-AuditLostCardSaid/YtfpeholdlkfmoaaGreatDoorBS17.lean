/- audit's run, walked. Printed by gen_aurun.py. -/
import Derived.Test.YtfpeholdlkfmoaaGreatDoorBS16
import Derived.Test.YtfpeholdlkfmoaaGreatDoorBS15
import Derived.Test.YtfpeholdlkfmoaaGreatDoorBS03
namespace Go.Proofs.YtfpeholdlkfmoaaGreatDoor
set_option linter.unusedSimpArgs false
set_option linter.unusedVariables false
set_option maxHeartbeats 8000000
open Go.RowKit
set_option maxRecDepth 100000
structure EvR where
 e:Ev
 la:Option Addr
 ln:Nat
 lc:Nat
def RawEv (w:World) (a:Option Addr) (xs:List EvR):Prop:=∀ k x,xs[k]?=some x→∃ g o,a=some ⟨g,o,none⟩∧g < w.heap.size∧(∀ (j:Nat) v,(evA x.e x.la x.ln x.lc)[j]?=some v→w.cell? ⟨g,o+k * 35+j,none⟩=some v)∧RawK w x.la x.e.lost∧x.ln=x.e.lost.length∧x.ln≤9223372036854775807∧∀ a',x.la=some a'→a'.block < w.heap.size
theorem RawK.upd {w w':World} {a:Option Addr} {ws:List (List UInt8)} (h:RawK w a ws) (hu:Upd Non w w'):RawK w' a ws:=fun k s hs=>by
 obtain ⟨g,o,e,hg,hc⟩:=h k s hs
 exact ⟨g,o,e,Nat.lt_of_lt_of_le hg hu.size,by rw [hu.cell (p:=⟨g,o+k,none⟩) hg (fun h=>h)]; exact hc⟩
theorem RawEv.upd {w w':World} {a:Option Addr} {xs:List EvR} (h:RawEv w a xs) (hu:Upd Non w w'):RawEv w' a xs:=fun k x hx=>by
 obtain ⟨g,o,e,hg,hc,hK,h1,h3,h2⟩:=h k x hx
 refine ⟨g,o,e,Nat.lt_of_lt_of_le hg hu.size,fun j v hv=>?_,hK.upd hu,h1,h3,fun a' ha=>Nat.lt_of_lt_of_le (h2 a' ha) hu.size⟩
 rw [hu.cell (p:=⟨g,o+k * 35+j,none⟩) hg (fun h=>h)]; exact hc j v hv
def RunP (w:World) (most:Int) (qw:List Ev) (z:Ending) (w':World):Prop:=∃ g b,z=.returned (.tuple #[.pointer (some ⟨g,0,none⟩),.int .i64 (zH7 (au0 most) qw 0).2])∧Upd Non w w'∧w.heap.size≤g∧AuAt w' g b (zH7 (au0 most) qw 0).1
structure RI (W0:World) (b:Nat) (W:Au) (ρ:Nat→RE) (w:World):Prop where
 up:Upd Non W0 w
 map:MapAt w b W.tn
 b0:W0.heap.size≤b
 g0:W0.heap.size≤(ρ 0).blk
 bg:b ≠ (ρ 0).blk
def ruE (W:Au) (b:Nat):List EN:=[stE (.rw 1 W.X.items.length) W b,roE W.X.items]
def ruS (i:Nat) (a:Option Addr) (n c:Nat):List (Nat × SV):=[(15,.c (.i .i64 (i:Int))),(14,.c (.i .i64 (n:Int))),(13,.c (.v (.slice a n c))),(6,.c (.p 0 0))]
theorem wr_ru {ρ:Nat→RE} {W:Au} {b q:Nat} (h:wrB ρ (ruE W b) q):q=(ρ 0).blk:=by
 obtain ⟨c,t,cells,hc,rfl⟩:=h
 match c with
 | 0=>rfl
 | 1=>simp only [ruE,zD,Option.some.injEq,roE,EN.mk.injEq] at hc; exact absurd hc.2.2 (by decide)
 | c+2=>simp [ruE,zD] at hc
theorem au_of {C:Cx} {ρ ρ0:Nat→RE} {en:List EN} {w0 w:World} {W0:World} {W:Au} {b:Nat} (hI:RI W0 b W ρ0 w0) (hS:C.S=wrB ρ0 (ruE W b)) (hw0:C.w0=w0) (hn:C.n0=2) (hr:C.ρ0=ρ0) (hw:Hw C ρ (· < en.length) en w) (h4:zD en 0=some (stE (.rw 1 W.X.items.length) W b)) (h5:zD en 1=some (roE W.X.items)) :
  Upd Non W0 w∧AuAt w (ρ0 0).blk b W∧(ρ 0).blk=(ρ0 0).blk∧(ρ 0).pre=[]:=by
 have l0:0 < en.length:=by rw [zA5] at h4; exact (List.getElem?_eq_some_iff.1 h4).1
 have l1:1 < en.length:=by rw [zA5] at h5; exact (List.getElem?_eq_some_iff.1 h5).1
 have g0:=hw.hp 0 _ _ _ l0 h4
 obtain ⟨_,hpre,hpost⟩:=hw.ho 0 _ _ _ l0 h4
 have hnl:(ρ 0).nl=none:=by
  cases hx:(ρ 0).nl with
  | none=>rfl
  | some p=>exact absurd (g0.non (by rw [hx]; exact fun h=>nomatch h)) (by simp [auS])
 have hb0:=g0.heap ⟨(by show ¬ (82:Nat)=zE8; decide),hnl⟩
 rw [hpre,hpost,List.nil_append,List.append_nil] at hb0
 have hg9:(ρ 0).blk=(ρ0 0).blk:=by rw [hw.ini 0 (by rw [hn]; decide),hr]
 rw [hg9] at hb0
 have hup:=hw.up
 rw [hS,hw0] at hup
 have hwr:∀ q,wrB ρ0 (ruE W b) q→W0.heap.size≤q:=fun q h=>by rw [wr_ru h]; exact hI.g0
 have hM:MapAt w b W.tn:=by
  obtain ⟨es,cl,ks,m1,m2,m3⟩:=hI.map
  have hb2:b < w0.heap.size:=(Array.getElem?_eq_some_iff.1 m1).1
  refine ⟨es,cl,ks,?_,m2,m3⟩
  rw [hup.block b hb2 (fun h=>hI.bg (wr_ru h))]; exact m1
 exact ⟨hI.up.trans hup (fun i hi h=>absurd (hwr i h) (by omega)),⟨⟨zE9 (ρ 1) W.X.items.length,hb0,zW5 hw.hp hw.ho l1 rfl h5⟩,hM⟩,hg9,hpre⟩
theorem run_fin {E:Cx} {fn:Func} {rs:List ResultVar} {W0 w:World} {ρ:Nat→RE} {W:Au} {b:Nat} {most at':Int} {qw:List Ev} {en:List EN} (hCx:Ctx E Tryz.prog fn (RunP W0 most qw)) (hrs:fn.results.toList=rs) (hI:RI W0 b W ρ w) (hS:E.S=wrB ρ (ruE W b)) (hw0:E.w0=w) (hn:E.n0=2) (hr:E.ρ0=ρ)
  (h4:zD en 0=some (stE (.rw 1 W.X.items.length) W b)) (h5:zD en 1=some (roE W.X.items)) (hrun:zH7 (au0 most) qw 0=(W,at')):Fin E rs (.t [.c (.p 0 0),.c (.i .i64 at')]) en:=by
 refine zK7 hCx hrs fun ρ' w' hw' _ _=>?_
 obtain ⟨q1,q2,q3,q4⟩:=au_of hI hS hw0 hn hr hw' h4 h5
 refine ⟨(ρ 0).blk,b,?_,q1,hI.g0,by rw [hrun]; exact q2⟩
 rw [hrun]
 show Ending.returned (Value.tuple #[zG5 ρ' 0 0,.int .i64 at'])=_
 rw [zG5,q3,q4]
 rfl
theorem run_w {w:World} {a:Option Addr} {n c:Nat} {xs:List EvR} {most:Int} (hx:RawEv w a xs) (hn:n=xs.length) (hl:n≤100000000) (hE:Env w) (Inv:Nat→Au→Prop) (h0:Inv 0 (au0 most)) (hs:∀ i W x W',Inv i W→xs[i]?=some x→zD7 W x.e=some W'→Inv (i+1) W') (hg:∀ i W x,Inv i W→xs[i]?=some x→GoOk W x.e) :
  Calls Tryz.prog 42 #[.slice a n c,.int .i64 most] w (RunP w most (xs.map (·.e))):=by
 refine zB8 Tryz.func42 rfl kp42 (S:=Non) (ρ:=fun _=>⟨0,[],[],0,none⟩) (en:=[]) [.c (.v (.slice a n c)),.c (.i .i64 most)] Tryz.ntmps42 (At.nil _ _ _) (by intro y hy; simp only [List.mem_cons,List.not_mem_nil,or_false] at hy; rcases hy with rfl | rfl <;> trivial) (by simp) ?_
 intro C hC hP hk
 have hS:C.S=Non:=by rw [hC]; rfl
 have hw:C.w0=w:=by rw [hC]; rfl
 have hCx:Ctx C Tryz.prog Tryz.f42 (RunP w most (xs.map (·.e))):=by rw [hC]; exact zL1
 have hctr:zE4 C noC:=zE6 hP
 (refine zB0 hctr (rs:=res42) true 300 _ _ _ ?_; simp (maxSteps:=1000000) only [VT,qH,qI,qK,qO,ev,qz,zI,zJ,zK,↓reduceIte,reduceCtorEq,Nat.reduceEqDiff,Nat.reduceLT,zP,zR,zt,hk,kp42])
 refine Run_makemap (by decide) ?_
 intro b w1 _ hM1 hb0 ρ1 w0 hw1 hw9 E hSame eS ew en er
 rw [hw] at hb0
 have hup0:Upd Non w w0:=by have:=hw1.up; rwa [hS,hw] at this
 have hCxE:=hCx.sameQ hSame
 have hkC:=hk
 have hP0:=hP
 have hP:E.P=Tryz.prog:=hSame.P.trans hP
 have hk:E.kp=kp42:=hSame.kp.trans hk
 have hctr:zE4 E noC:=zE6 hP
 (refine zB0 hctr (rs:=res42) true 300 _ _ _ ?_; simp (maxSteps:=1000000) only [VT,qH,qI,qK,qN,qO,qe,qf,qg,q0t,qu,qv,ev,qy,qz,zC,zD,zF,zG,zI,zJ,zM,↓reduceIte,reduceCtorEq,Value.oneCell',Nat.reduceEqDiff,Nat.reduceLT,zP,zQ,zR,hP,hk,kp42])
 refine Run_nilrow (en':=[stE (.rw 1 0) (au0 most) b]) (sl':=ruS 0 a n c) (33,0,rowQ 0) rfl (fun _=>.inr ⟨by simp,rfl,rfl⟩) ?_ ?_ ?_
 ·refine ⟨⟨rfl,rfl,fun ρ h=>?_,auS_wf (by show 1 < 1+1; decide)⟩,trivial⟩
  have h:(ρ 1).nl=some none:=h
  show zC1 ρ (auS (.rw 1 0) (au0 most) b)=_
  simp only [zC1,auS,List.map_cons,SC.den,zG4 h,List.map_nil]
  rfl
 ·refine ⟨⟨⟨_,rfl,fun _ _=>rfl⟩,trivial⟩,⟨⟨_,rfl,fun _ _=>rfl⟩,trivial⟩,⟨⟨_,rfl,fun _ _=>rfl⟩,trivial⟩,⟨⟨_,rfl,fun _ _=>rfl⟩,?_⟩,trivial⟩
  show 0 < 1+1; decide
 refine Run_loopW (ι:={ p:Nat × Au // p.1≤n∧Inv p.1 p.2∧zH7 (au0 most) (xs.map (·.e)) 0=zH7 p.2 ((xs.map (·.e)).drop p.1) p.1 }) (κ:={ W:Au // zH7 (au0 most) (xs.map (·.e)) 0=(W,-1) }) 0 (fun p=>ruS p.1.1 a n c) (fun p=>ruE p.1.2 b) (fun p ρ w'=>RI w b p.1.2 ρ w') (fun p=>n - p.1.1) ⟨(0,au0 most),Nat.zero_le _,h0,rfl⟩
  (fun _=>[(6,.c (.p 0 0))]) (fun W=>ruE W.1 b) (fun W ρ w'=>RI w b W.1 ρ w') rfl ?_ ?_ ?_
 ·intro ρ2 a2 w2 hr2
  refine ⟨ρ2,hr2.wt,?_⟩
  have hu2:=hr2.hw.up
  rw [eS,ew] at hu2
  have hno:∀ q,¬ wrB ρ1 [] q:=by rintro q ⟨c,t,cells,hc,_⟩; rw [zA5] at hc; exact absurd hc (by rw [List.getElem?_nil]; exact fun h=>nomatch h)
  have hsz:w0.heap.size≤w1.heap.size:=by rw [hw9]; exact (Upd.alloc (Upd.refl Non w0) _).size
  have hu3:Upd Non w w1:=by rw [hw9]; exact hup0.alloc _
  have hmu:=hr2.hw.mu 0 _ _ (by show 0 < 2; decide) rfl
  rw [eS,ew] at hmu
  have hge:=hmu.resolve_left (hno _)
  obtain ⟨es,cl,ks,m1,m2,m3⟩:=hM1
  have hbl:b < w1.heap.size:=(Array.getElem?_eq_some_iff.1 m1).1
  refine ⟨hu3.trans hu2 (fun i hi h=>absurd h (hno i)),⟨es,cl,ks,by rw [hu2.block b hbl (hno b)]; exact m1,m2,m3⟩,hb0,by have:=hu3.size; omega,by omega⟩
 ·rintro ⟨W,hW⟩ ρ2 w2 _ hI
  have hI:RI w b W ρ2 w2:=hI
  show Run (cxW E ρ2 w2 (ruE W b)) _ 28 [(6,.c (.p 0 0))] (ruE W b)
  obtain ⟨G,hG⟩:∃ G,G=cxW E ρ2 w2 (ruE W b):=⟨_,rfl⟩
  rw [← hG]
  have hCxG:Ctx G Tryz.prog Tryz.f42 (RunP w most (xs.map (·.e))):=by rw [hG]; exact hCxE.cxW _ _ _
  have hP:G.P=Tryz.prog:=by rw [hG]; exact hP
  have hk:G.kp=kp42:=by rw [hG]; exact hk
  have hctr:zE4 G noC:=zE6 hP
  (refine zB0 hctr (rs:=res42) true 300 _ _ _ ?_; simp (maxSteps:=1000000) only [VT,qE,qF,qG,qH,qI,qK,qO,ev,qy,qz,zI,zJ,↓reduceIte,reduceCtorEq,Nat.reduceEqDiff,Nat.reduceLT,zP,zQ,zR,hk,res42,kp42,stE,auS,ruE])
  exact run_fin hCxG hres42 hI (by rw [hG]; rfl) (by rw [hG]; rfl) (by rw [hG]; rfl) (by rw [hG]; rfl) rfl rfl hW
 rintro ⟨⟨i,W⟩,hi,hInv,hrn⟩ D ρ2 w2 dP dS dw dn dr dk ddf dPan dRet hwt hI hX hJ
 have hi:i≤n:=hi
 have hInv:Inv i W:=hInv
 have hrn:zH7 (au0 most) (xs.map (·.e)) 0=zH7 W ((xs.map (·.e)).drop i) i:=hrn
 have hI:RI w b W ρ2 w2:=hI
 have dS:D.S=wrB ρ2 (ruE W b):=dS
 have dn:D.n0=2:=dn
 have hP1:=hP
 have hP:D.P=Tryz.prog:=dP.trans hP
 have hk:D.kp=kp42:=dk.trans hk
 have hctr:zE4 D noC:=zE6 hP
 have hCxD:Ctx D Tryz.prog Tryz.f42 (RunP w most (xs.map (·.e))):=⟨hP,fun a w h=>dRet a w (hCxE.ret a w h),ddf.trans hCxE.df⟩
 show Run D _ 28 (ruS i a n c) (ruE W b)
 by_cases hin:i < n
 rotate_left
 ·have q1:decide ((i:Int) < (n:Int))=false:=decide_eq_false (by omega)
  (refine zB0 hctr (rs:=res42) true 300 _ _ _ ?_; simp (maxSteps:=1000000) only [VT,jg,qH,qI,qK,qR,qS,ev,qy,zH,zI,zJ,↓reduceIte,reduceCtorEq,Nat.reduceEqDiff,Nat.reduceLT,zP,zR,zW,hk,res42,kp42,stE,auS,ruS,ruE,q1])
  refine hX D (SameQ.refl D) ⟨W,by rw [hrn,List.drop_of_length_le (by rw [List.length_map]; omega)]; rfl⟩ rfl fun ρ' a' w' hr'=>?_
  have hr':Rep D ρ' 28 _ (ruE W b) a' w':=hr'
  obtain ⟨q1,q2,q3,q4⟩:=au_of hI dS dw dn dr hr'.hw rfl rfl
  refine ⟨ρ',?_,q1,q2.2,hI.b0,by rw [q3]; exact hI.g0,by rw [q3]; exact hI.bg⟩
  rw [← ddf]
  exact (hr'.less (s:=[(6,.c (.p 0 0))]) (zH6 ⟨rfl,trivial⟩)).wt
 have q1:decide ((i:Int) < (n:Int))=true:=decide_eq_true (by omega)
 have p0:(0:Int)≤(i:Int):=by omega
 have p1:(i:Int) < (n:Int):=by omega
 have p3:IntKind.i64.wrap ((i:Int)+1)=((i+1:Nat):Int):=by rw [IntWalk.i64_in _ (by omega)]; rfl
 obtain ⟨x,hxi⟩:∃ x,xs[i]?=some x:=⟨_,List.getElem?_eq_getElem (by omega)⟩
 obtain ⟨eg,eo,hea,hegl,hec,heK,heln,helm,hela⟩:=hx i x hxi
 subst hea
 obtain ⟨e,la,ln,lc⟩:=x
 have hre:D.rd eg (eo+i * 35) 35=some (evS e la ln lc):=by
  have:=zY9 (C:=D) (vs:=(evA e la ln lc).toList) (b:=eg) (o:=eo+i * 35) (fun w' hu j v hv=>by
   rw [dS,dw] at hu
   have hv':(evA e la ln lc)[j]?=some v:=by rw [← Array.getElem?_toList]; exact hv
   have h2:=(hI.up.trans hu (fun q hq h=>absurd (show w.heap.size≤q by rw [wr_ru h]; exact hI.g0) (by omega)))
   rw [h2.cell (p:=⟨eg,eo+i * 35+j,none⟩) hegl (fun h=>h)]
   exact hec j v hv') (n:=35) rfl
  rw [this]; rfl
 have hGo:=hg i W ⟨e,la,ln,lc⟩ hInv hxi
 obtain ⟨W2,hW2⟩:∃ W2,(zD7 W e).getD W=W2:=⟨_,rfl⟩
 obtain ⟨ok,hok⟩:∃ ok,(zD7 W e).isSome=ok:=⟨_,rfl⟩
 have hdr:(xs.map (·.e)).drop i=e :: (xs.map (·.e)).drop (i+1):=by
  have hm:(xs.map (·.e))[i]?=some e:=by rw [List.getElem?_map,hxi]; rfl
  have hml:=(List.getElem?_eq_some_iff.1 hm).1
  rw [List.drop_eq_getElem_cons hml,(List.getElem?_eq_some_iff.1 hm).2]
 (refine zB0 hctr (rs:=res42) true 300 _ _ _ ?_; simp (maxSteps:=1000000) only [VT,jf,qH,qI,qJ,qK,qO,qP,qR,qS,qX,q0t,qu,qv,ev,qw,qy,zA,zB,zC,zD,zE,zF,zG,zI,zJ,zM,↓reduceIte,reduceCtorEq,Value.oneCell',Nat.reduceEqDiff,Nat.reduceAdd,Nat.reduceLT,zP,zQ,zR,zT,zV,zh,zo,zt,hP,hk,res42,kp42,noC,evS,stE,auS,Nat.reduceAdd,ruS,ruE,p0,p1,hre])
 refine zS3 (M:=Unit) (I:=fun _ ρ w'=>RI w b W2 ρ w') (sl':=fun _=>[(22,.c (.b ok)),(15,.c (.i .i64 (i:Int))),(14,.c (.i .i64 (n:Int))),(13,.c (.v (.slice (some ⟨eg,eo,none⟩) n c))),(7,.c (.i .i64 (i:Int))),(6,.c (.p 0 0))]) (en':=fun _=>ruE W2 b) rfl (fun args w=>by rw [hP]; exact Tryz.call63 args w) ?_ ?_
 ·intro ρ3 a3 w3 hr3
  obtain ⟨q1,q2,q3,q4⟩:=au_of hI dS dw dn dr hr3.hw rfl rfl
  have hgo:=goes_w (e:=e) (la:=la) (ln:=ln) (lc:=lc) q2 hGo (heK.upd q1) heln helm (fun a' ha=>by have:=hela a' ha; have:=hI.g0; omega) (fun w' hu=>by
   have hu2:Upd Non w w':=q1.trans hu (fun q hq h=>by rcases h with rfl | rfl; exact absurd hI.g0 (by omega); exact absurd hI.b0 (by omega))
   exact hE.below hu2.to_below)
  have hargs:(List.map (SV.den ρ3) [.c (.p 0 0),.g (evS e la ln lc)]).toArray=#[.pointer (some ⟨(ρ2 0).blk,0,none⟩),.agg (evA e la ln lc)]:=by
   simp only [List.map_cons,List.map_nil,SV.den,SC.den,zG5,q3,q4,List.length_nil,Nat.zero_add]
   rfl
  rw [hP]
  have hgo':Calls Tryz.prog 63 (List.map (SV.den ρ3) [.c (.p 0 0),.g (evS e la ln lc)]).toArray w3 (GoP w3 (ρ2 0).blk b W e):=by rw [hargs]; exact hgo
  refine hgo'.mono ?_
  rintro z w4 ⟨rfl,hup,hA2⟩
  rw [hW2] at hA2
  rw [hok]
  obtain ⟨ρ4,hat,g1,g2⟩:=au_at hA2
  have hup4:Upd Non w w4:=q1.trans hup (fun q hq h=>by rcases h with rfl | rfl; exact absurd hI.g0 (by omega); exact absurd hI.b0 (by omega))
  refine ⟨(),ρ4,.bool ok,rfl,?_,hup4,hA2.2,hI.b0,by rw [g1]; exact hI.g0,by rw [g1]; exact hI.bg⟩
  have hp:∀ v:SV,v=.c (.p 0 0)→v.den ρ4=v.den ρ3:=by rintro v rfl; simp only [SV.den,SC.den,zG5,q3,q4,g1,g2]
  exact zS6 (v0:=.c (.b ok)) hr3 hat (by decide) trivial ⟨⟨_,rfl,rfl,trivial⟩,⟨_,rfl,rfl,trivial⟩,⟨_,rfl,rfl,trivial⟩,⟨_,rfl,rfl,trivial⟩,⟨_,rfl,hp _ rfl,(by show 0 < 2; decide)⟩,trivial⟩
 rintro - ρ3 w3 _ hI3
 have hI3:RI w b W2 ρ3 w3:=hI3
 obtain ⟨G,hG⟩:∃ G,G=cxW D ρ3 w3 (ruE W2 b):=⟨_,rfl⟩
 show Run (cxW D ρ3 w3 (ruE W2 b)) _ 28 [(22,.c (.b ok)),(15,.c (.i .i64 (i:Int))),(14,.c (.i .i64 (n:Int))),(13,.c (.v (.slice (some ⟨eg,eo,none⟩) n c))),(7,.c (.i .i64 (i:Int))),(6,.c (.p 0 0))] (ruE W2 b)
 rw [← hG]
 have hCxG:Ctx G Tryz.prog Tryz.f42 (RunP w most (xs.map (·.e))):=by rw [hG]; exact hCxD.cxW _ _ _
 have hPD:=hP; have hkD:=hk
 have hP:G.P=Tryz.prog:=by rw [hG]; exact hPD
 have hk:G.kp=kp42:=by rw [hG]; exact hkD
 have hctr:zE4 G noC:=zE6 hP
 have hSG:SameQ G D:=by rw [hG]; exact ⟨rfl,rfl,rfl,rfl⟩
 cases ok with
 | false =>
  have hgn:zD7 W e=none:=by cases hx:zD7 W e with | none=>rfl | some y=>rw [hx] at hok; cases hok
  have hWW:W2=W:=by rw [← hW2,hgn]; rfl
  have hend:zH7 (au0 most) (xs.map (·.e)) 0=(W2,(i:Int)):=by rw [hrn,hdr,hWW]; simp only [zH7,hgn]
  (refine zB0 hctr (rs:=res42) true 300 _ _ _ ?_; simp (maxSteps:=1000000) only [VT,jf,qE,qF,qG,qH,qI,qK,qO,qT,ev,qy,zI,zJ,↓reduceIte,reduceCtorEq,Nat.reduceEqDiff,Nat.reduceLT,zP,zQ,zR,zV,zW,hk,res42,kp42,stE,auS,ruE])
  exact run_fin hCxG hres42 hI3 (by rw [hG]; rfl) (by rw [hG]; rfl) (by rw [hG]; rfl) (by rw [hG]; rfl) rfl rfl hend
 | true =>
  have hgs:zD7 W e=some W2:=by cases hx:zD7 W e with | none=>rw [hx] at hok; cases hok | some y=>rw [hx] at hW2; rw [← hW2]; rfl
  (refine zB0 hctr (rs:=res42) true 300 _ _ _ ?_; simp (maxSteps:=1000000) only [VT,jg,qH,qI,qK,qO,qR,qS,qT,ev,qy,qz,zI,zJ,↓reduceIte,reduceCtorEq,Nat.reduceEqDiff,Nat.reduceLT,zP,zQ,zR,zV,zW,hk,res42,kp42,stE,auS,ruE,p3])
  refine hJ G hSG ⟨(i+1,W2),by omega,hs i W ⟨e,la,ln,lc⟩ W2 hInv hxi hgs,by rw [hrn,hdr]; simp only [zH7,hgs]⟩ (by show n - (i+1) < n - i; omega) fun ρ' a' w' hr'=>?_
  have hr':Rep G ρ' 28 _ (ruE W2 b) a' w':=hr'
  obtain ⟨q1,q2,q3,q4⟩:=au_of hI3 (by rw [hG]; rfl) (by rw [hG]; rfl) (by rw [hG]; rfl) (by rw [hG]; rfl) hr'.hw rfl rfl
  refine ⟨ρ',?_,q1,q2.2,hI.b0,by rw [q3]; exact hI3.g0,by rw [q3]; exact hI3.bg⟩
  have:=(hr'.less (s:=ruS (i+1) (some ⟨eg,eo,none⟩) n c) (zH6 ⟨rfl,rfl,rfl,rfl,trivial⟩)).wt
  rw [hSG.df,ddf] at this
  exact this
end Go.Proofs.YtfpeholdlkfmoaaGreatDoor
/- audit's Check and Replay, walked. Printed by gen_auchk.py. -/
namespace Go.Proofs.YtfpeholdlkfmoaaGreatDoor
set_option linter.unusedSimpArgs false
set_option linter.unusedVariables false
set_option maxHeartbeats 8000000
open Go.RowKit
set_option maxRecDepth 100000
structure Evs (w:World) (a:Option Addr) (n:Nat) (xs:List EvR) (most:Int):Prop where
 raw:RawEv w a xs
 eq:n=xs.length
 l:n≤100000000
 env:Env w
 inv:∃ Inv:Nat→Au→Prop,Inv 0 (au0 most)∧(∀ i W x W',Inv i W→xs[i]?=some x→zD7 W x.e=some W'→Inv (i+1) W')∧∀ i W x,Inv i W→xs[i]?=some x→GoOk W x.e
theorem Evs.upd {w w':World} {a:Option Addr} {n:Nat} {xs:List EvR} {most:Int} (h:Evs w a n xs most) (hu:Upd Non w w'):Evs w' a n xs most:=⟨h.raw.upd hu,h.eq,h.l,h.env.below hu.to_below,h.inv⟩
theorem Evs.run {w:World} {a:Option Addr} {n c:Nat} {xs:List EvR} {most:Int} (h:Evs w a n xs most):Calls Tryz.prog 42 #[.slice a n c,.int .i64 most] w (RunP w most (xs.map (·.e))):=by
 obtain ⟨Inv,h0,hs,hg⟩:=h.inv
 exact run_w h.raw h.eq h.l h.env Inv h0 hs hg
theorem no_wr {ρ:Nat→RE} {q:Nat}:¬ wrB ρ [] q:=by
 rintro ⟨c,t,cells,hc,_⟩
 rw [zA5] at hc
 exact absurd hc (by rw [List.getElem?_nil]; exact fun h=>nomatch h)
theorem check_w {w:World} {a:Option Addr} {n c:Nat} {xs:List EvR} {most:Int} (h:Evs w a n xs most) :
  Calls Tryz.prog 15 #[.slice a n c,.int .i64 most] w fun z w'=>z=.returned (.int .i64 (zH7 (au0 most) (xs.map (·.e)) 0).2)∧Below w.heap.size w w':=by
 refine zB8 Tryz.func15 rfl kp15 (S:=Non) (ρ:=fun _=>⟨0,[],[],0,none⟩) (en:=[]) [.c (.v (.slice a n c)),.c (.i .i64 most)] Tryz.ntmps15 (At.nil _ _ _) (by intro y hy; simp only [List.mem_cons,List.not_mem_nil,or_false] at hy; rcases hy with rfl | rfl <;> trivial) (by simp) ?_
 intro C hC hP hk
 have hS:C.S=Non:=by rw [hC]; rfl
 have hw:C.w0=w:=by rw [hC]; rfl
 obtain ⟨at',hat'⟩:∃ x,(zH7 (au0 most) (xs.map (·.e)) 0).2=x:=⟨_,rfl⟩
 rw [hat'] at hC
 have hCx:Ctx C Tryz.prog Tryz.f15 (fun z w'=>z=.returned (.int .i64 at')∧Below w.heap.size w w'):=by rw [hC]; exact zL1
 have hctr:zE4 C noC:=zE6 hP
 (refine zB0 hctr (rs:=res15) true 300 _ _ _ ?_; simp (maxSteps:=1000000) only [VT,qH,qI,qK,qO,ev,qw,qy,qz,zI,zJ,zK,↓reduceIte,reduceCtorEq,Nat.reduceEqDiff,Nat.reduceLT,zP,zR,zt,hk,kp15,noC])
 refine zS3 (M:=Nat) (I:=fun _ _ w'=>Upd Non w w') (sl':=fun g=>[(10,.t [.c (.v (.pointer (some ⟨g,0,none⟩))),.c (.i .i64 at')])]) (en':=fun _=>[]) rfl (fun args w=>by rw [hP]; exact Tryz.call42 args w) ?_ ?_
 ·intro ρ1 a1 w1 hr1
  have hu:Upd Non w w1:=by have:=hr1.hw.up; rwa [hS,hw] at this
  rw [hP]
  refine ((h.upd hu).run (c:=c)).mono ?_
  rintro z w2 ⟨g,b,rfl,hu2,_,_⟩
  rw [hat']
  exact ⟨g,ρ1,_,rfl,zS6 (v0:=.t [.c (.v (.pointer (some ⟨g,0,none⟩))),.c (.i .i64 at')]) (s:=[]) hr1 (At.nil (fun _=>True) ρ1 w2) (by decide) (by intro y hy; simp only [List.mem_cons,List.not_mem_nil,or_false] at hy; rcases hy with rfl | rfl <;> trivial) trivial,hu.trans hu2 (fun _ _ h=>h)⟩
 intro g ρ1 w1 _ hI
 obtain ⟨G,hG⟩:∃ G,G=cxW C ρ1 w1 []:=⟨_,rfl⟩
 show Run (cxW C ρ1 w1 []) _ 14 [(10,.t [.c (.v (.pointer (some ⟨g,0,none⟩))),.c (.i .i64 at')])] []
 rw [← hG]
 have hCxG:Ctx G Tryz.prog Tryz.f15 (fun z w'=>z=.returned (.int .i64 at')∧Below w.heap.size w w'):=by rw [hG]; exact hCx.cxW _ _ _
 have hP0:=hP; have hk0:=hk
 have hP:G.P=Tryz.prog:=by rw [hG]; exact hP0
 have hk:G.kp=kp15:=by rw [hG]; exact hk0
 have hctr:zE4 G noC:=zE6 hP
 (refine zB0 hctr (rs:=res15) true 300 _ _ _ ?_; simp (maxSteps:=1000000) only [VT,qE,qF,qG,qH,qI,qK,qO,qh,ev,qy,zD,zI,zJ,TE.sv,↓reduceIte,reduceCtorEq,Nat.reduceEqDiff,Nat.reduceLT,zP,zQ,zR,hk,res15,kp15])
 refine zK7 hCxG hres15 fun ρ' w' hw' _ _=>⟨rfl,?_⟩
 have hup:=hw'.up
 rw [hG] at hup
 exact (hI.trans hup (fun i _ h=>absurd h no_wr)).to_below
def ReP (w:World) (X:St) (z:Ending) (w':World):Prop:=∃ v,z=.returned (.agg #[v,.int .u64 X.cas,.int .i64 X.flush])∧OwnI 0 w' v X.items∧Upd Non w w'
theorem replay_w {w:World} {a:Option Addr} {n c:Nat} {xs:List EvR} {most:Int} (h:Evs w a n xs most) :
  Calls Tryz.prog 17 #[.slice a n c,.int .i64 most] w (ReP w (zH7 (au0 most) (xs.map (·.e)) 0).1.X):=by
 refine zB8 Tryz.func17 rfl kp17 (S:=Non) (ρ:=fun _=>⟨0,[],[],0,none⟩) (en:=[]) [.c (.v (.slice a n c)),.c (.i .i64 most)] Tryz.ntmps17 (At.nil _ _ _) (by intro y hy; simp only [List.mem_cons,List.not_mem_nil,or_false] at hy; rcases hy with rfl | rfl <;> trivial) (by simp) ?_
 intro C hC hP hk
 have hS:C.S=Non:=by rw [hC]; rfl
 have hw:C.w0=w:=by rw [hC]; rfl
 obtain ⟨W,hW⟩:∃ W,(zH7 (au0 most) (xs.map (·.e)) 0).1=W:=⟨_,rfl⟩
 obtain ⟨at',hat'⟩:∃ x,(zH7 (au0 most) (xs.map (·.e)) 0).2=x:=⟨_,rfl⟩
 rw [hW] at hC
 have hCx:Ctx C Tryz.prog Tryz.f17 (ReP w W.X):=by rw [hC]; exact zL1
 have hctr:zE4 C noC:=zE6 hP
 (refine zB0 hctr (rs:=res17) true 300 _ _ _ ?_; simp (maxSteps:=1000000) only [VT,qH,qI,qK,qO,ev,qw,qy,zF,zG,zI,zJ,zK,zM,↓reduceIte,reduceCtorEq,Nat.reduceEqDiff,Nat.reduceLT,zP,zR,zt,hP,hk,kp17,noC])
 refine zS3 (M:=Nat × Option Addr × Nat) (I:=fun m ρ w'=>Upd Non w w'∧(ρ 0).blk ≠ m.1∧w.heap.size≤(ρ 0).blk∧(∀ q cs m',w'.heap[q]?=some (.cells cs 33 m')→q ≠ (ρ 0).blk)∧∃ b,w'.heap[m.1]?=some (.cells (auV (.slice m.2.1 W.X.items.length m.2.2) W b).toArray 82 (0,0))∧OwnI 0 w' (.slice m.2.1 W.X.items.length m.2.2) W.X.items) (sl':=fun m=>[(10,.t [.c (.v (.pointer (some ⟨m.1,0,none⟩))),.c (.i .i64 at')]),(4,.c (.p 0 0))]) (en':=fun _=>[⟨(25,0,whole),[.v (.slice none 0 0),.i .u64 0,.i .i64 0],true⟩]) rfl (fun args w=>by rw [hP]; exact Tryz.call42 args w) ?_ ?_
 ·intro ρ1 a1 w1 hr1
  have hu:Upd Non w w1:=by have:=hr1.hw.up; rwa [hS,hw] at this
  rw [hP]
  refine ((h.upd hu).run (c:=c)).mono ?_
  rintro z w2 ⟨g,b,rfl,hu2,hge,⟨⟨v,hb,ho⟩,hM⟩⟩
  rw [hW] at hb ho
  rw [hat']
  have hs2:=hr1.hw.same hu2.to_below
  obtain ⟨a9,c9,rfl,_⟩:=zS9 ho
  have g0:=hr1.hw.hp 0 _ _ _ (by show 0 < 1; decide) rfl
  have hnl:(ρ1 0).nl=none:=by
   cases hx:(ρ1 0).nl with
   | none=>rfl
   | some p=>exact absurd (g0.non (by rw [hx]; exact fun h=>nomatch h)) (by simp)
  have hl0:=(Array.getElem?_eq_some_iff.1 (g0.heap ⟨(by show ¬ (25:Nat)=zE8; decide),hnl⟩)).1
  have hmu:=(hr1.hw.mu 0 _ _ (by show 0 < 1; decide) rfl).resolve_left (by rw [hS]; exact fun h=>h)
  rw [hw] at hmu
  exact ⟨(g,a9,c9),ρ1,_,rfl,zS6 (v0:=.t [.c (.v (.pointer (some ⟨g,0,none⟩))),.c (.i .i64 at')]) hr1 (S:=fun _=>True) ⟨hs2.hp,hs2.ho,hs2.inj,fun _ _ _ _ _=>trivial⟩ (by decide) (by intro y hy; simp only [List.mem_cons,List.not_mem_nil,or_false] at hy; rcases hy with rfl | rfl <;> trivial) ⟨⟨_,rfl,rfl,(by show 0 < 1; decide)⟩,trivial⟩,hu.trans hu2 (fun _ _ h=>h),by show ¬ (ρ1 0).blk=g; omega,hmu,fun q cs m' hq e=>by
   rw [e,hu2.block _ hl0 (fun h=>h),g0.heap ⟨(by show ¬ (25:Nat)=zE8; decide),hnl⟩] at hq
   simp only [Option.some.injEq,Obj.cells.injEq] at hq
   exact absurd hq.2.1 (by decide),b,hb,ho⟩
 rintro ⟨g,a9,c9⟩ ρ1 w1 _ ⟨hu1,hne,hge0,hitem,b,hb,ho⟩
 have hne:(ρ1 0).blk ≠ g:=hne
 have hb:w1.heap[g]?=some (.cells (auV (.slice a9 W.X.items.length c9) W b).toArray 82 (0,0)):=hb
 have ho:OwnI 0 w1 (.slice a9 W.X.items.length c9) W.X.items:=ho
 obtain ⟨G,hG⟩:∃ G,G=cxW C ρ1 w1 [⟨(25,0,whole),[.v (.slice none 0 0),.i .u64 0,.i .i64 0],true⟩]:=⟨_,rfl⟩
 show Run (cxW C ρ1 w1 [⟨(25,0,whole),[.v (.slice none 0 0),.i .u64 0,.i .i64 0],true⟩]) _ 17 [(10,.t [.c (.v (.pointer (some ⟨g,0,none⟩))),.c (.i .i64 at')]),(4,.c (.p 0 0))] [⟨(25,0,whole),[.v (.slice none 0 0),.i .u64 0,.i .i64 0],true⟩]
 rw [← hG]
 have hCxG:Ctx G Tryz.prog Tryz.f17 (ReP w W.X):=by rw [hG]; exact hCx.cxW _ _ _
 have hP0:=hP; have hk0:=hk
 have hP:G.P=Tryz.prog:=by rw [hG]; exact hP0
 have hk:G.kp=kp17:=by rw [hG]; exact hk0
 have hctr:zE4 G noC:=zE6 hP
 have hwr:∀ q,G.S q→q=(ρ1 0).blk:=by
  rw [hG]
  rintro q ⟨c,t,cells,hc,rfl⟩
  match c with
  | 0=>rfl
  | c+1=>simp [zD] at hc
 have hGw:G.w0=w1:=by rw [hG]; rfl
 have hgl:=(Array.getElem?_eq_some_iff.1 hb).1
 have hr0:G.rd g 0 3=some [.v (.slice a9 W.X.items.length c9),.i .u64 W.X.cas,.i .i64 W.X.flush]:=zY9 (vs:=[.slice a9 W.X.items.length c9,.int .u64 W.X.cas,.int .i64 W.X.flush]) (fun w' hu j v hv=>by
  rw [hGw] at hu
  have hb':w'.heap[g]?=some (.cells (auV (.slice a9 W.X.items.length c9) W b).toArray 82 (0,0)):=by rw [hu.block g hgl (fun h=>hne (hwr g h).symm)]; exact hb
  rw [Go.cell_of_row w' _ _ _ _ (0,0) hb']
  match j with
  | 0=>exact hv
  | 1=>exact hv
  | 2=>exact hv
  | _+3=>simp at hv) rfl
 (refine zB0 hctr (rs:=res17) true 300 _ _ _ ?_; simp (maxSteps:=1000000) only [VT,qE,qF,qG,qH,qI,qJ,qK,qO,qP,qQ,qV,qh,q0t,qu,qv,ev,qy,zA,zB,zC,zD,zE,zG,zI,zJ,TE.sv,zM,↓reduceIte,reduceCtorEq,Value.oneCell',Nat.reduceEqDiff,Nat.reduceAdd,Nat.reduceLT,zP,zQ,zR,zt,zu,hP,hk,res17,kp17,Nat.reduceAdd,hr0])
 refine zK7 hCxG hres17 fun ρ' w' hw' _ _=>?_
 have hup:=hw'.up
 rw [hGw] at hup
 refine ⟨.slice a9 W.X.items.length c9,rfl,?_,hu1.trans hup (fun i hi h=>absurd (hwr i h) (by omega))⟩
 rcases ho with ⟨p,e1,e2⟩ | ⟨g1,cap,R,e1,q1,q2,hI⟩
 ·exact .inl ⟨p,e1,e2⟩
 ·refine .inr ⟨g1,cap,R,e1,q1,q2,⟨?_,hI.fit,hI.big⟩⟩
  rw [hup.block g1 hI.lt (fun h=>?_)]
  ·exact hI.heap
  ·-- the state's cell lies in a block of its own
   exact hitem g1 _ _ hI.heap (hwr g1 h)
end Go.Proofs.YtfpeholdlkfmoaaGreatDoor
/- The events that a store told, one behind the other: what is known of them. -/
namespace Go.Proofs.YtfpeholdlkfmoaaGreatDoor
set_option linter.unusedSimpArgs false
set_option linter.unusedVariables false
open Go.RowKit
set_option maxRecDepth 100000
def Cd.zero:Cd:=⟨0,0,[],[],0,0,false,0,false,0,0,false,false,0,0,false⟩
theorem zY0:CdOk Cd.zero:=⟨by decide,by decide,Int.le_refl 0,by decide,Int.le_refl 0,by decide⟩
theorem zM5 {W W':Au} {e:Ev}:∀ {qw:List Ev} {i:Nat},zH7 W qw i=(W',-1)→zH7 W (qw++[e]) i=match zD7 W' e with
  | some W''=>(W'',-1)
  | none=>(W',((i+qw.length:Nat):Int)):=by
 intro qw
 induction qw generalizing W with
 | nil =>
  intro i h
  simp only [zH7,Prod.mk.injEq,and_true] at h
  subst h
  simp only [List.nil_append,zH7,List.length_nil,Nat.add_zero]
  cases zD7 W e <;> rfl
 | cons x r ih =>
  intro i h
  simp only [List.cons_append,zH7] at h ⊢
  cases hx:zD7 W x with
  | none=>rw [hx] at h; simp only [Prod.mk.injEq] at h; omega
  | some W2 =>
   rw [hx] at h
   simp only at h ⊢
   rw [ih h,List.length_cons]
   cases zD7 W' e with
   | some _=>rfl
   | none=>simp only; congr 2; omega
def OkAt (most:Int) (qw:List Ev):Prop:=∀ i e,qw[i]?=some e→∀ W,zH7 (au0 most) (qw.take i) 0=(W,-1)→GoOk W e
theorem OkAt.inv {most:Int} {xs:List EvR} (h:OkAt most (xs.map (·.e))):∃ Inv:Nat→Au→Prop,Inv 0 (au0 most)∧(∀ i W x W',Inv i W→xs[i]?=some x→zD7 W x.e=some W'→Inv (i+1) W')∧∀ i W x,Inv i W→xs[i]?=some x→GoOk W x.e:=by
 refine ⟨fun i W=>zH7 (au0 most) ((xs.map (·.e)).take i) 0=(W,-1),rfl,fun i W x W' hI hx hg=>?_,fun i W x hI hx=>?_⟩
 ·have hm:(xs.map (·.e))[i]?=some x.e:=by rw [List.getElem?_map,hx]; rfl
  have htk:(xs.map (·.e)).take (i+1)=(xs.map (·.e)).take i++[x.e]:=by rw [List.take_add_one,hm]; rfl
  show zH7 (au0 most) ((xs.map (·.e)).take (i+1)) 0=(W',-1)
  rw [htk,zM5 hI,hg]
 ·have hm:(xs.map (·.e))[i]?=some x.e:=by rw [List.getElem?_map,hx]; rfl
  exact h i x.e hm W hI
def EvF (e:Ev):Prop:=(e.kind=1∧e.lost=[]∧e.idx=0∧e.ans.st ≠ 0)∨(e.kind=2∧e.lost.length=1)
structure Tl (most:Int) (k n:Nat) (qw:List Ev) (X:St) (now:Int) (q:Int→Int):Prop where
 nice:NiceV k X
 lo:1≤now
 hi:now≤1+7 * k
 run:∃ now' tn,zH7 (au0 most) qw 0=(⟨X,now',tn,most⟩,-1)∧now'≤now∧∀ c,tn c=if (c=0∨c=1)∧q c ≠ 0 then some (q c,0) else none
 q:∀ c,0≤q c∧q c≤k
 ok:OkAt most qw
 len:qw.length≤n
 form:∀ e∈qw,EvF e
theorem Tl.start (most:Int):Tl most 0 0 [] St.zero 1 (fun _=>0):=
 ⟨⟨Sorted.nil,Nat.le_refl _,fun x hx=>nomatch hx⟩,Int.le_refl 1,by omega,⟨1,fun _=>none,rfl,Int.le_refl 1,fun c=>by simp⟩,fun c=>⟨Int.le_refl 0,Int.le_refl 0⟩,fun i e h=>by simp at h,Nat.le_refl _,fun e he=>nomatch he⟩
theorem NiceV.mono {n m:Nat} {X:St} (h:NiceV n X) (hm:n≤m):NiceV m X:=⟨h.sorted,Nat.le_trans h.len hm,fun x hx=>(h.bd x hx).mono hm⟩
theorem Tl.skip {most:Int} {k n:Nat} {qw:List Ev} {X:St} {now now':Int} {q:Int→Int} (h:Tl most k n qw X now q) (h1:now≤now') (h2:now'≤now+7):Tl most (k+1) n qw X now' q:=by
 obtain ⟨a,b,c,⟨n',tn,d1,d2,d3⟩,e,f,g,h3⟩:=h
 exact ⟨a.mono (Nat.le_succ _),by omega,by omega,⟨n',tn,d1,by omega,d3⟩,fun c=>⟨(e c).1,by have:=(e c).2; omega⟩,f,g,h3⟩
theorem NiceV.goOk {k:Nat} {W:Au} {e:Ev} (h:NiceV k W.X) (hk:k≤100) (hc:CdOk e.cmd):GoOk W e:=by
 have hg:=h.good hk
 exact ⟨h.sorted,by have:=h.len; omega,hg.bd,hc⟩
theorem OkAt.snoc {most:Int} {qw:List Ev} {W:Au} {e:Ev} (h:OkAt most qw) (hr:zH7 (au0 most) qw 0=(W,-1)) (hg:GoOk W e):OkAt most (qw++[e]):=by
 intro i x hx W' hW'
 rcases Nat.lt_or_ge i qw.length with hi | hi
 ·rw [List.getElem?_append_left hi] at hx
  rw [List.take_append_of_le_length (by omega)] at hW'
  exact h i x hx W' hW'
 ·have hi2:i=qw.length:=by
   have:=(List.getElem?_eq_some_iff.1 hx).1
   simp at this; omega
  subst hi2
  rw [List.getElem?_append_right (Nat.le_refl _),Nat.sub_self] at hx
  simp only [List.getElem?_cons_zero,Option.some.injEq] at hx
  subst hx
  rw [List.take_left' rfl,hr] at hW'
  simp only [Prod.mk.injEq,and_true] at hW'
  subst hW'
  exact hg
theorem Tl.done {most:Int} {k n:Nat} {qw:List Ev} {X:St} {now0 now:Int} {q:Int→Int} (h:Tl most k n qw X now0 q) (hk:k+1≤40) (hn1:now0≤now) (hn2:now≤now0+7) {c:Cd} (hc:CdOk c) {conn:Int} (hcn:conn=0∨conn=1) {R:St × An} (hR:zA9 X now c most=R) (hst:R.2.st ≠ 0) :
  Tl most (k+1) (n+1) (qw++[⟨1,now,conn,q conn+1,0,c,R.2,[]⟩]) R.1 now (fun d=>if d=conn then q conn+1 else q d):=by
 obtain ⟨a,b,c',⟨n',tn,d1,d2,d3⟩,e,f,g,h3⟩:=h
 have hR2:zA9 (zB1 X now) now c most=R:=by rw [app_live]; exact hR
 have hnx:zP9 tn ⟨1,now,conn,q conn+1,0,c,R.2,[]⟩=true:=by
  have hq:=e conn
  unfold zP9
  rw [if_neg (by show ¬ conn < 0; rcases hcn with h | h <;> omega),if_neg (by show ¬ q conn+1 < 1; omega)]
  by_cases h0:q conn=0
  ·have:tn conn=none:=by rw [d3,if_neg (by intro h; exact h.2 h0)]
   simp only [this]
   rfl
  ·have:tn conn=some (q conn,0):=by rw [d3,if_pos ⟨hcn,h0⟩]
   simp only [this,Option.isSome_some,Bool.not_true,Bool.false_or,Option.getD_some]
   rw [if_pos (decide_eq_true (by omega))]
   rfl
 have hst12:R.2.st ≠ 12:=by rw [← hR]; exact st_ne12 a.sorted
 have hgo:zD7 ⟨X,n',tn,most⟩ ⟨1,now,conn,q conn+1,0,c,R.2,[]⟩=some ⟨R.1,now,zJ0 tn conn (q conn+1,0),most⟩:=by
  unfold zD7
  rw [if_neg (by show ¬ now < n'; omega),if_neg (by show ¬ 1099511627776 < now; omega)]
  simp only [zF8]
  rw [if_neg (show ¬ (1:Int)=2 by decide),if_pos trivial,if_neg (by rw [hnx]; decide),if_neg hst,if_neg (by rw [eqAn_st (b:=noMem) hst12]; decide),if_pos (by rw [hR2]; exact eqAn_self _),hR2]
 have hrun:zH7 (au0 most) (qw++[⟨1,now,conn,q conn+1,0,c,R.2,[]⟩]) 0=(⟨R.1,now,zJ0 tn conn (q conn+1,0),most⟩,-1):=by rw [zM5 d1,hgo]
 refine ⟨?_,by omega,by omega,⟨now,_,hrun,Int.le_refl _,fun d=>?_⟩,fun d=>?_,f.snoc d1 (a.goOk (by omega) hc),by simp; omega,fun x hx=>?_⟩
 ·rw [← hR]; exact nice_step a hc
 ·have hq:=e conn
  show zJ0 tn conn (q conn+1,0) d=if (d=0∨d=1)∧(if d=conn then q conn+1 else q d) ≠ 0 then some ((if d=conn then q conn+1 else q d),0) else none
  unfold zJ0
  by_cases hd:d=conn
  ·rw [if_pos hd,if_pos hd,if_pos ⟨by rw [hd]; exact hcn,by omega⟩]
  ·rw [if_neg hd,if_neg hd]; exact d3 d
 ·have:=e d
  have hq:=e conn
  show 0≤(if d=conn then q conn+1 else q d)∧(if d=conn then q conn+1 else q d)≤((k+1:Nat):Int)
  split <;> omega
 ·rcases List.mem_append.1 hx with hx | hx
  ·exact h3 x hx
  ·simp only [List.mem_singleton] at hx
   subst hx
   exact .inl ⟨rfl,rfl,rfl,hst⟩
theorem Tl.lost {most:Int} {k n:Nat} {qw:List Ev} {X:St} {now:Int} {q:Int→Int} (h:Tl most k n qw X now q) (hk:k≤40) {key:List UInt8} (hkey:isF (zB1 X now).items key=true) :
  Tl most k (n+1) (qw++[⟨2,now,0,0,0,Cd.zero,An.zero,[key]⟩]) ⟨zG6 (zB1 X now) key,(zB1 X now).cas,(zB1 X now).flush⟩ now q:=by
 obtain ⟨a,b,c',⟨n',tn,d1,d2,d3⟩,e,f,g,h3⟩:=h
 have hl:=a.live now
 have hgo:zD7 ⟨X,n',tn,most⟩ ⟨2,now,0,0,0,Cd.zero,An.zero,[key]⟩=some ⟨⟨zG6 (zB1 X now) key,(zB1 X now).cas,(zB1 X now).flush⟩,now,tn,most⟩:=by
  unfold zD7
  rw [if_neg (by show ¬ now < n'; omega),if_neg (by show ¬ 1099511627776 < now; omega)]
  simp only [zF8,zQ5,hkey,if_true,zG6]
  rfl
 have hrun:zH7 (au0 most) (qw++[⟨2,now,0,0,0,Cd.zero,An.zero,[key]⟩]) 0=(⟨⟨zG6 (zB1 X now) key,(zB1 X now).cas,(zB1 X now).flush⟩,now,tn,most⟩,-1):=by rw [zM5 d1,hgo]
 refine ⟨⟨?_,?_,fun x hx=>?_⟩,b,c',⟨now,tn,hrun,Int.le_refl _,d3⟩,e,f.snoc d1 (a.goOk (by omega) zY0),by simp; omega,fun x hx=>?_⟩
 ·show Sorted (zG6 (zB1 X now) key)
  unfold zG6; rw [if_pos hkey]; exact hl.sorted.erase _
 ·show (zG6 (zB1 X now) key).length≤k
  unfold zG6; rw [if_pos hkey]
  exact Nat.le_trans (List.eraseIdx_sublist _ _).length_le hl.len
 ·have hx:x∈zG6 (zB1 X now) key:=hx
  unfold zG6 at hx; rw [if_pos hkey] at hx
  exact hl.bd x ((List.eraseIdx_sublist _ _).subset hx)
 ·rcases List.mem_append.1 hx with hx | hx
  ·exact h3 x hx
  ·simp only [List.mem_singleton] at hx
   subst hx
   exact .inr ⟨rfl,rfl⟩
end Go.Proofs.YtfpeholdlkfmoaaGreatDoor
/- An array behind a pointer: the place of an element. No program in sight. -/
namespace Go.Proofs.YtfpeholdlkfmoaaGreatDoor
set_option linter.unusedSimpArgs false
set_option linter.unusedVariables false
open Go.RowKit
section
variable {C:Cx} {nt:Nat} {sl:List (Nat × SV)} {en:List EN} {k:List KI}
variable {dst:Option Nat} {ty:TypeId} {pos:String} {af:Array Edge} {all r:List Oper}
theorem zU9 {x y:Operand} {t e n c o:Nat} {kd:IntKind} {j:Int} {i:TypeInfo} (es:Nat) (ht:C.P.underlying t=some (.array n e)) (hi:C.P.info? e=some i) (hs:i.size=es) (hx:ev sl x=some (.c (.p c o))) (hy:ev sl y=some (.c (.i kd j))) (h0:0≤j) (h1:j < (n:Int)) (hd:∀ d,dst=some d→d < nt)
  (hK:Run C (.ops all r :: k) nt (jN dst (.c (.p c (o+j.toNat * es))) sl) en):Run C (.ops all (⟨dst,.indexAddr t x y,ty,pos,af,none⟩ :: r) :: k) nt sl en:=by
 refine Run_soft1 (.c (.p c (o+j.toNat * es))) (fun ρ a w hr=>?_) hd hK
 obtain ⟨x1,x2⟩:=hr.ev_ok _ _ hx
 obtain ⟨y1,_⟩:=hr.ev_ok _ _ hy
 refine ⟨?_,x2⟩
 have x1':a.eval x=.pointer (some ⟨(ρ c).blk,(ρ c).pre.length+o,none⟩):=x1
 have y1':a.eval y=.int kd j:=y1
 have hsz:(sizeOf e).run C.P w=.ok es w:=by rw [← hs]; exact zC6 hi
 simp [execOp,x1',y1',Instr.indexAt,zC9 ht,Instr.sureAddr,asIntOf,h0,h1,hsz,SV.den,SC.den,zG5,zG0,Nat.add_assoc]
end
end Go.Proofs.YtfpeholdlkfmoaaGreatDoor
