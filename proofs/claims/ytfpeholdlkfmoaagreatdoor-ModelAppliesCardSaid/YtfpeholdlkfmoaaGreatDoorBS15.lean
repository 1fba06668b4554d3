/- shown returns true (without the calls of drawn regions, which SxFresh has). -/
import Derived.Test.YtfpeholdlkfmoaaGreatDoorBS10
import Derived.Test.YtfpeholdlkfmoaaGreatDoorBS14
import Derived.Test.YtfpeholdlkfmoaaGreatDoorBS11
import Derived.Test.YtfpeholdlkfmoaaGreatDoorBS12
namespace Go.Proofs.YtfpeholdlkfmoaaGreatDoor
set_option linter.unusedSimpArgs false
set_option linter.unusedVariables false
set_option maxHeartbeats 8000000
open Go.RowKit
def shC1:Cd:=⟨2,0,[107],[53],0,10,false,0,false,0,0,false,false,0,0,false⟩
def shC2:Cd:=⟨3,0,[107],[],0,0,false,0,false,3,0,false,false,0,-1,false⟩
def shX1:It:=⟨[107],0,[53],110,1,0,false,false⟩
def shX2:It:=⟨[107],0,[56],110,2,0,false,false⟩
def shX3:It:=⟨[107],0,[56],110,2,109,false,false⟩
theorem wrap64 (n:Int) (h0:0≤n) (h1:n < 18446744073709551616):IntKind.u64.wrap n=n:=by rw [IntKind.wrap_u64]; omega
theorem sh1:zB3 St.zero 100 shC1 900=(⟨[shX1],1,0⟩,⟨2,shX1,0,false,false,false⟩):=by
 rw [show St.zero=zV5 0 from rfl,app_nil ⟨by decide,by decide,by decide⟩]
 simp [doF,shC1,zB0,zE1,zL2,zK4,zV5,zF2,itF,shX1,It.zero,zB4,wrap64]
theorem par5:zC1 [53]=some 5:=by decide
theorem par8:zC1 [56]=some 8:=by decide
theorem dec8:Lib.decDigits 8=[56]:=by rw [Lib.decDigits_one (by decide)]; rfl
theorem sh2:zB3 ⟨[shX1],1,0⟩ 105 shC2 900=(⟨[shX2],2,0⟩,⟨6,shX2,8,false,false,false⟩):=by
 rw [show (⟨[shX1],1,0⟩:St)=one shX1 1 from rfl,app_one ⟨by decide,by decide,by decide⟩ (by decide) rfl]
 simp [doF,shC2,zD1,zG6,addV,zE1,zK4,one,itF,shX1,shX2,zB4,wrap64,par5,par8,dec8]
theorem sh3:zB3 ⟨[shX2],2,0⟩ 109 (getC [107]) 900=(⟨[shX3],2,0⟩,⟨1,shX3,0,false,false,false⟩):=by
 rw [show (⟨[shX2],2,0⟩:St)=one shX2 2 from rfl,app_one ⟨by decide,by decide,by decide⟩ (by decide) rfl]
 simp [doF,getC,zX4,gotF,zS1,zN6,itF,one,shX2,shX3]
theorem sh4:zB3 ⟨[shX2],2,0⟩ 110 (getC [107]) 900=(⟨[],2,0⟩,zA6 5):=by
 rw [show (⟨[shX2],2,0⟩:St)=one shX2 2 from rfl,app_gone ⟨by decide,by decide,by decide⟩ (by decide)]
 simp [doF,getC,zX4,zV5]
theorem good_nil (cas flush:Int):Good ⟨[],cas,flush⟩:=⟨Sorted.nil,by simp,by simp⟩
theorem zX9 (x:It):Sorted [x]:=List.pairwise_singleton _ _
set_option maxRecDepth 100000
theorem shown_ok (w:World) (hE:Env w):Calls Tryz.prog 7 #[] w fun e w'=>e=.returned (.bool true)∧Below w.heap.size w w':=by
 refine zA9 Tryz.func7 rfl kp7 (S:=Non) (ρ:=fun _=>⟨0,[],[],0,none⟩) (en:=[]) [] Tryz.ntmps7 (At.nil _ _ _) (by simp) (by simp) ?_
 intro C hC hP hk
 have hctr:=zK6 hP
 have hEC:=envC_of hC hE
 have hn0:C.n0=0:=by rw [hC]; rfl
 have g1:Good ⟨[shX1],1,0⟩:=⟨zX9 _,by simp,by simp [shX1]⟩
 have g2:Good ⟨[shX2],2,0⟩:=⟨zX9 _,by simp,by simp [shX2]⟩
 (refine zA7 hctr (rs:=res7) true 300 _ _ _ ?_; simp (maxSteps:=1000000) only [VG,qH,qI,qK,qO,qf,qg,q0t,ev,qw,qy,qz,zC,zD,zI,zJ,zK,zM,↓reduceIte,Nat.reduceEqDiff,Nat.reduceLT,zP,zR,hP,hk,kp7,noC])
 refine zR2 (⟨[shX1],1,0⟩,⟨2,shX1,0,false,false,false⟩) (X:=St.zero) (c:=shC1) (now:=100) (most:=900) sh1.symm hP hEC (.inl ⟨rfl,rfl⟩) (good_nil _ _) ⟨by decide,by decide,by decide,by decide,by decide,by decide⟩ (by rw [hn0]; exact Nat.zero_le _) rfl (by simp) ?_
 (refine zA7 hctr (rs:=res7) true 300 _ _ _ ?_; simp (maxSteps:=1000000) only [VG,qH,qI,qJ,qK,qO,qP,qf,qg,qh,q0t,qu,qv,ev,qw,qy,qz,zA,zB,zC,zD,zE,zF,zG,zI,zJ,TE.sv,zM,↓reduceIte,reduceCtorEq,Nat.reduceEqDiff,Nat.reduceAdd,Nat.reduceLT,zP,zQ,zR,zk,zl,zt,jN,hP,hk,kp7,noC,srcE,anS,shX1])
 refine zR2 (⟨[shX2],2,0⟩,⟨6,shX2,8,false,false,false⟩) (X:=⟨[shX1],1,0⟩) (c:=shC2) (now:=105) (most:=900) sh2.symm hP hEC (.inr ⟨0,rfl,rfl⟩) g1 ⟨by decide,by decide,by decide,by decide,by decide,by decide⟩ (by rw [hn0]; exact Nat.zero_le _) rfl (by simp) ?_
 (refine zA7 hctr (rs:=res7) true 300 _ _ _ ?_; simp (maxSteps:=1000000) only [VG,qH,qI,qJ,qK,qO,qP,qf,qg,qh,q0t,qu,qv,ev,qw,qy,qz,zA,zB,zC,zD,zE,zF,zG,zI,zJ,TE.sv,zM,↓reduceIte,reduceCtorEq,Nat.reduceEqDiff,Nat.reduceAdd,Nat.reduceLT,zP,zQ,zR,zk,zl,zt,jN,hP,hk,kp7,noC,srcE,anS,shX2])
 refine zR2 (⟨[shX3],2,0⟩,⟨1,shX3,0,false,false,false⟩) (X:=⟨[shX2],2,0⟩) (c:=getC [107]) (now:=109) (most:=900) sh3.symm hP hEC (.inr ⟨3,rfl,rfl⟩) g2 ⟨by decide,by decide,by decide,by decide,by decide,by decide⟩ (by rw [hn0]; exact Nat.zero_le _) rfl (by simp) ?_
 (refine zA7 hctr (rs:=res7) true 300 _ _ _ ?_; simp (maxSteps:=1000000) only [VG,qH,qI,qJ,qK,qO,qP,qf,qg,qh,q0t,qu,qv,ev,qw,qy,qz,zA,zB,zC,zD,zE,zF,zG,zI,zJ,TE.sv,zM,↓reduceIte,reduceCtorEq,Nat.reduceEqDiff,Nat.reduceAdd,Nat.reduceLT,zP,zQ,zR,zk,zl,zt,jN,hP,hk,kp7,noC,srcE,anS,shX3])
 refine zR2 (⟨[],2,0⟩,zA6 5) (X:=⟨[shX2],2,0⟩) (c:=getC [107]) (now:=110) (most:=900) sh4.symm hP hEC (.inr ⟨3,rfl,rfl⟩) g2 ⟨by decide,by decide,by decide,by decide,by decide,by decide⟩ (by rw [hn0]; exact Nat.zero_le _) rfl (by simp) ?_
 (refine zA7 hctr (rs:=res7) true 300 _ _ _ ?_; simp (maxSteps:=1000000) only [VG,jZ,je,qE,qF,qG,qH,qI,qJ,qK,qO,qP,qR,qS,qV,qh,qp,q0t,qu,qv,ev,qy,qz,zC,zD,zE,zF,zG,zI,zJ,TE.sv,zM,↓reduceIte,reduceCtorEq,Nat.reduceEqDiff,Nat.reduceAdd,Nat.reduceLT,zP,zQ,zR,zS,zV,zb,zc,zl,zt,zu,zy,jN,hP,hk,res7,kp7,srcE,anS,zA6,It.zero,beq_self_eq_true])
 exact zY7 hC hres7 rfl
def shC:Ctr:=fun f _ xs=>match f with
 | 7=>(match xs with
  | []=>some (True,.c (.b true))
  | _=>none)
 | _=>none
theorem shC_ok {C:Cx} (hP:C.P=Tryz.prog) (hE:EnvC C):zE8 C shC:=by
 intro f en xs p v h hp ρ w hup hHp hHo hinj hwf
 unfold shC at h
 split at h
 ·rw [hP]
  refine ⟨fun args w=>Tryz.call7 args w,?_⟩
  split at h <;> simp only [Option.some.injEq,Prod.mk.injEq,reduceCtorEq] at h
  obtain ⟨rfl,rfl⟩:=h
  exact ⟨trivial,shown_ok w (hE w hup)⟩
 ·cases h
end Go.Proofs.YtfpeholdlkfmoaaGreatDoor
/- Items that are owned, as entries that may be written; copied and both Applys as calls on them. Printed by gen_apd.py. -/
namespace Go.Proofs.YtfpeholdlkfmoaaGreatDoor
set_option linter.unusedSimpArgs false
set_option linter.unusedVariables false
set_option maxHeartbeats 8000000
open Go.RowKit
set_option maxRecDepth 100000
def rowQ (n:Nat):RE→Prop:=fun r=>(r.nl=none∧r.pre=[]∧n * 8+r.post.length=r.cap * 8∧n≤r.cap∧r.cap≤maxLen)∨(r.nl ≠ none∧n=0∧r.pre=[])
def muE (n:Nat) (cells:List SC):EN:=⟨(33,0,rowQ n),cells,true⟩
def owE (L:List It):EN:=muE L.length (zB2 itS L)
theorem own_ow {ρ:Nat→RE} {pr:Nat→Prop} {en:List EN} {w:World} {d:Nat} {L:List It} (hp:Hp ρ pr en w) (ho:Ho ρ pr en) (ld:pr d) (hd:zD en d=some (owE L)):OwnI 0 w (zJ7 (ρ d) L.length) L:=by
 obtain ⟨_,hO⟩:=ho d _ _ _ ld hd
 rcases hO with ⟨h1,h2,h3,h4,h5⟩ | ⟨h1,h2,h3⟩
 ·have hwd:=(hp d _ _ _ ld hd).heap ⟨(by show ¬ (33:Nat)=zG0; decide),h1⟩
  rw [h2,List.nil_append,zD3] at hwd
  by_cases hc:(ρ d).cap=0
  ·have hL:L=[]:=List.eq_nil_of_length_eq_zero (by omega)
   subst hL
   exact .inl ⟨_,by rw [zG2 h1,hc]; rfl,rfl⟩
  ·exact .inr ⟨_,_,(ρ d).post,zG2 h1 _,Nat.zero_le _,by omega,⟨hwd,h3,h5⟩⟩
 ·have hL:L=[]:=List.eq_nil_of_length_eq_zero h2
  subst hL
  cases hnl:(ρ d).nl with
  | none=>exact absurd hnl h1
  | some p=>exact .inl ⟨p,zI4 hnl _,rfl⟩
theorem row_slQ {C:Cx} {n N:Nat} {cells:List SC} {ρ:Nat→RE} {w:World} {en:List EN} (hw:Hw C ρ (· < en.length) en w) (hN:zD en N=some (muE n cells)) (hne:n ≠ 0):∃ m:{ m:Nat // n≤m∧m≤maxLen },(SC.sl N 0 n m.1).den ρ=(SC.rw N n).den ρ:=by
 have lN:N < en.length:=by rw [zA8] at hN; exact (List.getElem?_eq_some_iff.1 hN).1
 obtain ⟨_,h⟩:=hw.ho N _ _ _ lN hN
 rcases h with ⟨h1,h2,h3,h4,h5⟩ | ⟨h1,h2,h3⟩
 ·refine ⟨⟨(ρ N).cap,h4,h5⟩,?_⟩
  simp only [SC.den,h2,List.length_nil,Nat.zero_add]
  rw [zG2 h1]
 ·exact absurd h2 hne
theorem own_h {C:Cx} {nE N:Nat} {mk:Nat→Prop} {en en':List EN} {f:FuncId} {xs:List SV} {L:List It} {v:SV} (vf:Value→Value) (hP:C.P=Tryz.prog) (hent:∀ args w,(callFunc f args).run Tryz.prog w=.ok (.enter f args) w)
  (hmk:∀ q,mk q ↔ q=N) (hn0:C.n0≤N) (hN:zD en' N=some (owE L)) (hq:∀ q,q ≠ N→zD en' q=zD en q) (hvw:∀ pr:Nat→Prop,pr N→v.wf pr) (hvf:∀ ρ,v.den ρ=vf (zJ7 (ρ N) L.length))
  (H:∀ ρ pr w,Hw C ρ pr en w→(∀ x∈xs,x.wf pr)→Calls Tryz.prog f (xs.map (SV.den ρ)).toArray w fun e w'=>∃ v',e=.returned (vf v')∧OwnI w.heap.size w' v' L∧Below w.heap.size w w') :
  zL3 C nE mk en en' f xs v:=by
 refine zO2 (e:=owE L) (vals:=zC8 L) (fun args w=>by rw [hP]; exact hent args w) hmk hn0 hN hq (by show ¬ (33:Nat)=zG0; decide) (fun ρ=>zD3 ρ _) (fun pr=>zD7 pr _) hvw ?_
 intro ρ pr w hw _ hwf
 rw [hP]
 refine (H ρ pr w hw hwf).mono ?_
 rintro z w'' ⟨v',rfl,ho,hb⟩
 rcases ho with ⟨p,rfl,rfl⟩ | ⟨g,cap,R,rfl,hg,hc,hI⟩
 ·refine ⟨⟨w.heap.size,[],[],0,some p⟩,⟨rfl,.inr ⟨by simp,rfl,rfl⟩,(fun h=>by cases h),fun _=>rfl,fun _=>Nat.le_refl _⟩,fun ρ' _ h=>?_,hb⟩
  rw [hvf,h]; rfl
 ·refine ⟨⟨g,[],R,cap,none⟩,⟨rfl,.inl ⟨rfl,rfl,hI.fit,hI.le,hI.big⟩,fun _=>⟨hg,hI.heap⟩,fun h=>absurd rfl h,fun h=>absurd rfl h⟩,fun ρ' _ h=>?_,hb⟩
  rw [hvf,h]; rfl
section
variable {C:Cx} {nt:Nat} {sl:List (Nat × SV)} {en:List EN} {k:List KI} {dst:Option Nat} {ty:TypeId} {pos:String} {af:Array Edge} {all r:List Oper}
theorem append0_op {x y:Operand} {t e:TypeId} {i:TypeInfo} {X Y:SC} (ht:C.P.underlying t=some (.slice e)) (hi:C.P.info? e=some i) (hx:ev sl x=some (.c X)) (hy:ev sl y=some (.c Y)) (hX:∀ ρ pr w,Hw C ρ pr en w→X.wf pr→∃ A n c,X.den ρ=.slice A n c∧n≤c) (hY:∀ ρ,∃ B cp,Y.den ρ=.slice B 0 cp) (hd:∀ d,dst=some d→d < nt)
  (hK:Run C (.ops all r :: k) nt (jN dst (.c X) sl) en):Run C (.ops all (⟨dst,.call ⟨.builtin .append,#[x,y],#[t,t]⟩,ty,pos,af,none⟩ :: r) :: k) nt sl en:=by
 refine Run_soft1 (.c X) (fun ρ a w hr=>?_) hd hK
 obtain ⟨x1,x2⟩:=hr.ev_ok _ _ hx
 obtain ⟨y1,_⟩:=hr.ev_ok _ _ hy
 obtain ⟨A,n,c,hA,hnc⟩:=hX ρ _ w hr.hw x2
 obtain ⟨B,cp,hB⟩:=hY ρ
 have x1':a.eval x=.slice A n c:=by rw [← hA]; exact x1
 have y1':a.eval y=.slice B 0 cp:=by rw [← hB]; exact y1
 have h:=zU6 (P:=C.P) w (ty:=ty) ht hi A B n c cp hnc
 refine ⟨?_,x2⟩
 simp [execOp,resolve,invoke,builtin,x1',y1',h,SV.den,hA]
end
theorem copied_w {w:World} {a:Option Addr} {n c:Nat} (X:St) (ha:RawI w a X.items) (hn:n=X.items.length) (hl:n≤100000000) :
  Calls Tryz.prog 10 #[.agg #[.slice a n c,.int .u64 X.cas,.int .i64 X.flush]] w fun e w'=>∃ v',e=.returned (.agg #[v',.int .u64 X.cas,.int .i64 X.flush])∧OwnI w.heap.size w' v' X.items∧Below w.heap.size w w':=by
 refine zA9 Tryz.func10 rfl kp10 (S:=Non) (ρ:=fun _=>⟨0,[],[],0,none⟩) (en:=[]) [.g [.v (.slice a n c),.i .u64 X.cas,.i .i64 X.flush]] Tryz.ntmps10 (At.nil _ _ _) (by intro y hy; simp only [List.mem_cons,List.not_mem_nil,or_false] at hy; subst hy; exact zD6 trivial) (by simp) ?_
 intro C hC hP hk
 have hS:C.S=Non:=by rw [hC]; rfl
 have hw:C.w0=w:=by rw [hC]; rfl
 have hn0:C.n0=0:=by rw [hC]; rfl
 have hctr:=zK6 hP
 obtain ⟨i0,hi',hz0,hz1,hz2⟩:=info_parts zK7
 have hiC:C.P.info? 33=some i0:=by rw [hP]; exact hi'
 have hund:C.P.underlying 22=some (.slice 33):=by rw [hP]; exact Tryz.underlying22
 have hnd:¬ (33:Nat)=zG0:=by decide
 have fin:∀ (en:List EN) (m:Nat),zD en m=some (rwI X.items)→Fin C res10 (.g [.rw m X.items.length,.i .u64 X.cas,.i .i64 X.flush]) en:=fun en m hm=>by
  refine zH5 (v:=.g [.rw m X.items.length,.i .u64 X.cas,.i .i64 X.flush]) hC hres10 fun ρ w' hw' _ _=>?_
  have hup:=hw'.up
  rw [hC] at hup
  have k:=own_rwI hw' hS hm
  rw [hw] at k
  exact ⟨_,rfl,k,hup.to_below⟩
 (refine zA4 hctr (rs:=res10) true 7 _ _ _ ?_; simp (maxSteps:=1000000) only [VT,qH,qI,q0t,qu,qv,ev,qy,zF,zG,zI,zJ,zK,zM,↓reduceIte,reduceCtorEq,Value.oneCell',Nat.reduceEqDiff,Nat.reduceLT,zP,zt,hP,hk,kp10])
 refine build0_op (e:=33) (z:=8) hund hiC hnd (by rw [hn0]; exact Nat.zero_le _) rfl (by simp) ?_
 (refine zA4 hctr (rs:=res10) true 2 _ _ _ ?_; simp (maxSteps:=1000000) only [VT,qH,qI,qK,qP,qV,ev,qy,zD,zF,zG,zM,↓reduceIte,Nat.reduceEqDiff,Nat.reduceAdd,Nat.reduceLT,zR,zl,zt,zu,rwE,jN,hP,Nat.reduceAdd])
 by_cases h0:n=0
 ·have hX:X.items=[]:=List.eq_nil_of_length_eq_zero (by omega)
  refine append0_op (X:=.rw 2 0) (Y:=.v (.slice a n c)) hund hiC rfl rfl (fun ρ pr w hw h=>row_le (e:=33) (z:=8) (n:=0) (cells:=[]) rfl hw h) (fun ρ=>⟨a,c,by rw [h0]; rfl⟩) (by simp) ?_
  (refine zA4 hctr (rs:=res10) true 300 _ _ _ ?_; simp (maxSteps:=1000000) only [VT,qE,qF,qG,qH,qI,qJ,qK,qP,qV,q0t,qu,qv,ev,qy,zA,zB,zC,zD,zE,zG,zI,zJ,TE.sv,zM,↓reduceIte,reduceCtorEq,Nat.reduceEqDiff,Nat.reduceAdd,Nat.reduceLT,zP,zQ,zR,zt,zu,jN,hP,hk,res10,kp10,Nat.reduceAdd])
  have:=fun en=>fin en 2
  rw [hX] at this
  exact this _ rfl
 ·obtain ⟨g,o,hag,hg,_⟩:=ha 0 _ (List.getElem?_eq_getElem (by omega))
  subst hag
  have hri:=zH6 hS hw ha 0 n (by omega) (by omega)
  rw [Nat.zero_mul,Nat.add_zero,List.drop_zero,List.take_of_length_le (by omega)] at hri
  refine append_op (n:=0) (m:=n) (z:=8) (bts:=72) (cells:=[]) (news:=zB2 itS X.items) (o:=some 2) (X:=.rw 2 0) (Y:=.v (.slice (some ⟨g,o,none⟩) n c)) hund hiC hz0 hz1 hz2 rfl (by decide) hnd (.some rfl) rfl rfl (zM0 hri) (by rw [zF9 zK0,hn]) (zJ4 _) (fun pr=>zD7 pr _) (by omega) (by omega) (by rw [hn0]; exact Nat.zero_le _) rfl (by simp) ?_
  (refine zA4 hctr (rs:=res10) true 300 _ _ _ ?_; simp (maxSteps:=1000000) only [VT,qE,qF,qG,qH,qI,qJ,qK,qP,qV,q0t,qu,qv,ev,qy,zA,zB,zC,zD,zE,zF,zG,zI,zJ,TE.sv,zM,↓reduceIte,reduceCtorEq,Nat.reduceEqDiff,Nat.reduceAdd,Nat.reduceLT,zP,zQ,zR,zt,zu,zH8,zA5,rwE,jN,hP,hk,res10,kp10,Nat.reduceAdd,rwE,zH8,zA5,List.nil_append])
  have:=fun en=>fin en 3
  rw [← hn] at this
  refine this _ ?_
  show some _=some _
  unfold rwI rwE
  rw [hn]
theorem copied_h {C:Cx} {nE N:Nat} {mk:Nat→Prop} {en en':List EN} {w0:World} {a:Option Addr} {n c:Nat} (X:St) (hP:C.P=Tryz.prog) (hS:C.S=Non) (hw0:C.w0=w0) (ha:RawI w0 a X.items) (hn:n=X.items.length) (hl:n≤100000000)
  (hmk:∀ q,mk q ↔ q=N) (hn0:C.n0≤N) (hN:zD en' N=some (owE X.items)) (hq:∀ q,q ≠ N→zD en' q=zD en q) :
  zL3 C nE mk en en' 10 [.g [.v (.slice a n c),.i .u64 X.cas,.i .i64 X.flush]] (.g [.rw N n,.i .u64 X.cas,.i .i64 X.flush]):=by
 refine own_h (L:=X.items) (fun v=>.agg #[v,.int .u64 X.cas,.int .i64 X.flush]) hP (fun args w=>Tryz.call10 args w) hmk hn0 hN hq (fun pr h=>zD6 h) (fun ρ=>by rw [hn]; rfl) ?_
 intro ρ pr w hw hpr
 have hu:Upd Non w0 w:=by have:=hw.up; rw [hS,hw0] at this; exact this
 exact copied_w X (ha.below hu.to_below) hn hl
structure Asked (X:St) (cd:Cd):Prop where
 good:Good X
 bd:∀ x∈X.items,x.key.length≤1000000000∧x.val.length≤1000000000∧0≤x.exp∧x.exp≤9223372036854775807
 cok:CdOk cd
 val:cd.val.length≤1000000000
theorem refApp_h {C:Cx} {nE M N:Nat} {mk:Nat→Prop} {en en':List EN} {X:St} {now:Int} {cd:Cd} {most:Int} (R:St × An) (hR:refF X now cd most=R) (hP:C.P=Tryz.prog) (hA:Asked X cd) (hM:zD en M=some (owE X.items)) {n:Nat} (hn:n=X.items.length)
  (hmk:∀ q,mk q ↔ q=N) (hn0:C.n0≤N) (hN:zD en' N=some (owE R.1.items)) (hq:∀ q,q ≠ N→zD en' q=zD en q) :
  zL3 C nE mk en en' 11 [.g [.rw M n,.i .u64 X.cas,.i .i64 X.flush],.c (.i .i64 now),.g (cdS cd),.c (.i .i64 most)] (.t [.g [.rw N R.1.items.length,.i .u64 R.1.cas,.i .i64 R.1.flush],.g (anS R.2)]):=by
 subst hn
 refine own_h (L:=R.1.items) (fun v=>.tuple #[.agg #[v,.int .u64 R.1.cas,.int .i64 R.1.flush],.agg (anA R.2)]) hP (fun args w=>Tryz.call11 args w) hmk hn0 hN hq ?_ (fun ρ=>rfl) ?_
 ·intro pr h y hy
  simp only [List.mem_cons,List.not_mem_nil,or_false] at hy
  rcases hy with rfl | rfl
  ·exact zD6 h
  ·exact zZ1 _ _
 intro ρ pr w hw hwf
 have h0:wfs pr [.rw M X.items.length,.i .u64 X.cas,.i .i64 X.flush]:=hwf (.g _) (List.mem_cons_self ..)
 have lM:pr M:=h0 (.rw M _) (List.mem_cons_self ..)
 obtain ⟨a,c,hv,hr⟩:=own_raw (own_ow hw.hp hw.ho lM hM)
 have:=rapply_w (c:=c) hr hA.good.sorted rfl (by have:=hA.good.len; omega) now cd most hA.cok.key hA.val hA.cok.d0 hA.cok.d1 hA.cok.i0 hA.cok.i1 hA.bd
 rw [hR,← hv] at this
 exact this
theorem modApp_h {C:Cx} {nE M N:Nat} {mk:Nat→Prop} {en en':List EN} {X:St} {now:Int} {cd:Cd} {most:Int} (R:St × An) (hR:zB3 X now cd most=R) (hP:C.P=Tryz.prog) (hE:EnvC C) (hA:Asked X cd) (hM:zD en M=some (owE X.items)) {n:Nat} (hn:n=X.items.length)
  (hmk:∀ q,mk q ↔ q=N) (hn0:C.n0≤N) (hN:zD en' N=some (owE R.1.items)) (hq:∀ q,q ≠ N→zD en' q=zD en q) :
  zL3 C nE mk en en' 12 [.g [.rw M n,.i .u64 X.cas,.i .i64 X.flush],.c (.i .i64 now),.g (cdS cd),.c (.i .i64 most)] (.t [.g [.rw N R.1.items.length,.i .u64 R.1.cas,.i .i64 R.1.flush],.g (anS R.2)]):=by
 subst hn
 refine own_h (L:=R.1.items) (fun v=>.tuple #[.agg #[v,.int .u64 R.1.cas,.int .i64 R.1.flush],.agg (anA R.2)]) hP (fun args w=>Tryz.call12 args w) hmk hn0 hN hq ?_ (fun ρ=>rfl) ?_
 ·intro pr h y hy
  simp only [List.mem_cons,List.not_mem_nil,or_false] at hy
  rcases hy with rfl | rfl
  ·exact zD6 h
  ·exact zZ1 _ _
 intro ρ pr w hw hwf
 have h0:wfs pr [.rw M X.items.length,.i .u64 X.cas,.i .i64 X.flush]:=hwf (.g _) (List.mem_cons_self ..)
 have lM:pr M:=h0 (.rw M _) (List.mem_cons_self ..)
 have:=apply_any X _ now cd most w (own_ow hw.hp hw.ho lM hM) hA.good hA.cok (hE w hw.up)
 rw [hR] at this
 exact this
end Go.Proofs.YtfpeholdlkfmoaaGreatDoor
/- Same of two states at raw places; what large and Right ask of a state. -/
namespace Go.Proofs.YtfpeholdlkfmoaaGreatDoor
set_option linter.unusedSimpArgs false
set_option linter.unusedVariables false
open Go.RowKit
set_option maxRecDepth 100000
def lgN:Nat→List It→Nat
 | a,[]=>a
 | a,x :: r=>if a < 500000 then lgN (a+2500+min x.key.length 500000+min x.val.length 500000) r else a
theorem lgN_ge:∀ (l:List It) (a:Nat),500000≤a→lgN a l=a
 | [],_,_=>rfl
 | x :: r,a,h=>by unfold lgN; rw [if_neg (by omega)]
theorem lgN_lt:∀ (l:List It) (a:Nat),lgN a l < 500000→a+2500 * l.length≤lgN a l∧∀ x∈l,x.key.length < 500000∧x.val.length < 500000
 | [],a,_=>⟨Nat.le_refl _,fun x hx=>nomatch hx⟩
 | x :: r,a,h=>by
  unfold lgN at h ⊢
  by_cases ha:a < 500000
  ·rw [if_pos ha] at h ⊢
   obtain ⟨h1,h2⟩:=lgN_lt r _ h
   refine ⟨by rw [List.length_cons]; omega,fun y hy=>?_⟩
   rcases List.mem_cons.1 hy with rfl | hy
   ·omega
   ·exact h2 y hy
  ·rw [if_neg ha] at h; omega
def zQ4 (xs:List It):Bool:=decide (500000≤lgN 0 xs)
def itR (x:It):Bool:=zS6 x.key && decide (x.val.length≤65536) && decide (0≤x.exp) && decide (0≤x.last)
def zY2 (X:St):Prop:=(∀ (i:Nat) x,X.items[i]?=some x→itR x=true)∧(∀ (i:Nat) x y,X.items[i]?=some x→X.items[i+1]?=some y→Op.bytesLess x.key y.key=true)∧0≤X.flush
open Classical in
noncomputable def zL6 (X:St):Bool:=decide (zY2 X)
open Classical in
theorem rightB_t {X:St} (h:zY2 X):zL6 X=true:=decide_eq_true h
open Classical in
theorem rightB_f {X:St} (h:¬ zY2 X):zL6 X=false:=decide_eq_false h
theorem right_sorted {X:St} (h:zL6 X=true):Sorted X.items:=by
 have h:zY2 X:=by simpa [zL6] using h
 have h2:=h.2.1
 refine List.pairwise_iff_getElem.2 fun i j hi hj hij=>?_
 obtain ⟨d,rfl⟩:∃ d,j=i+1+d:=⟨j - (i+1),by omega⟩
 clear hij
 induction d with
 | zero=>exact h2 i _ _ (List.getElem?_eq_getElem hi) (List.getElem?_eq_getElem hj)
 | succ d ih =>
  exact zH3 (ih (by omega)) (h2 (i+1+d) _ _ (List.getElem?_eq_getElem (by omega)) (List.getElem?_eq_getElem hj))
theorem right_item {X:St} (h:zL6 X=true) {x:It} (hx:x∈X.items):itR x=true:=by
 have h:zY2 X:=by simpa [zL6] using h
 obtain ⟨i,hi⟩:=List.mem_iff_getElem?.1 hx
 exact h.1 i x hi
end Go.Proofs.YtfpeholdlkfmoaaGreatDoor
/- What ModelApplies asks of its state: large, Right; a copy of it. Printed by gen_apc.py. -/
namespace Go.Proofs.YtfpeholdlkfmoaaGreatDoor
set_option linter.unusedSimpArgs false
set_option linter.unusedVariables false
set_option maxHeartbeats 8000000
open Go.RowKit
set_option maxRecDepth 100000
def enLg (a:Option Addr) (n c:Nat) (cs fl:Int):List EN:=[⟨(25,0,whole),[.v (.slice a n c),.i .u64 cs,.i .i64 fl],true⟩]
theorem raw_at {D:Cx} {w:World} {a:Option Addr} {xs:List It} {i:Nat} {x:It} (hS:D.S=Non) (hw:D.w0=w) (ha:RawI w a xs) (hx:xs[i]?=some x):∃ g o,a=some ⟨g,o,none⟩∧D.rd g (o+i * 8) 8=some (itS x)∧D.rd g (o+i * 8) 1=some [.s x.key]∧D.rd g (o+i * 8+2) 1=some [.s x.val]:=by
 obtain ⟨g,o,rfl,hg,hc⟩:=ha i x hx
 obtain ⟨h1,h2⟩:=zU8 hS hw hg hc
 refine ⟨g,o,rfl,h1,h2,rd_arg (vs:=[.string ⟨x.val.toArray⟩]) hS hw hg (fun j v hv=>?_) rfl⟩
 have hj:j=0:=by have:=(List.getElem?_eq_some_iff.1 hv).1; simp at this; exact this
 subst hj
 exact hc 2 v hv
def slLg (i acc:Nat):List (Nat × SV):=[(4,.c (.i .i64 (i:Int))),(3,.c (.i .i64 (acc:Int))),(1,.c (.p 0 0))]
theorem large_w {w:World} {a:Option Addr} {n c:Nat} (xs:List It) (cs fl:Int) (ha:RawI w a xs) (hn:n=xs.length) (hl:n≤9223372036854775807) (hb:∀ x∈xs,x.key.length≤9223372036854775807∧x.val.length≤9223372036854775807) :
  Calls Tryz.prog 8 #[.agg #[.slice a n c,.int .u64 cs,.int .i64 fl]] w fun e w'=>e=.returned (.bool (zQ4 xs))∧Below w.heap.size w w':=by
 refine zA9 Tryz.func8 rfl kp8 (S:=Non) (ρ:=fun _=>⟨0,[],[],0,none⟩) (en:=[]) [.g [.v (.slice a n c),.i .u64 cs,.i .i64 fl]] Tryz.ntmps8 (At.nil _ _ _) (by intro y hy; simp only [List.mem_cons,List.not_mem_nil,or_false] at hy; subst hy; exact zD6 trivial) (by simp) ?_
 intro C hC hP hk
 have hS:C.S=Non:=by rw [hC]; rfl
 have hw:C.w0=w:=by rw [hC]; rfl
 have hn0:C.n0=0:=by rw [hC]; rfl
 have hctr:=zK6 hP
 have fin:∀ b en,b=zQ4 xs→Fin C res8 (.c (.b b)) en:=fun b en hb=>by subst hb; exact zL9 (v:=.c (.b (zQ4 xs))) hC hres8 rfl trivial
 (refine zA4 hctr (rs:=res8) true 300 _ _ _ ?_; simp (maxSteps:=1000000) only [VT,qH,qI,qK,qO,q0t,qu,qv,ev,qy,qz,zF,zG,zI,zJ,zK,↓reduceIte,reduceCtorEq,Value.oneCell',Nat.reduceEqDiff,Nat.reduceLT,zP,zR,hk,kp8])
 refine zL1 (ι:={ p:Nat × Nat // p.1≤n∧lgN p.2 (xs.drop p.1)=lgN 0 xs∧p.2≤2000000 }) (fun p=>slLg p.1.1 p.1.2) (fun _=>enLg a n c cs fl) (fun p=>n - p.1.1) ⟨(0,0),Nat.zero_le _,rfl,Nat.zero_le _⟩ (zC6 ⟨rfl,rfl,rfl,trivial⟩) rfl ?_
 rintro ⟨⟨i,acc⟩,hi,hac,hab⟩ D dP dS dw dn dr dk ddf dPan dRet hX hJ
 have hP0:=hP; have hk0:=hk; have hctr0:=hctr
 have hP:D.P=Tryz.prog:=by rw [dP]; exact hP0
 have hk:D.kp=kp8:=by rw [dk]; exact hk0
 have hctr:zE8 D noC:=zK6 hP
 have hDS:D.S=Non:=by rw [dS]; exact hS
 have hDw:D.w0=w:=by rw [dw]; exact hw
 have hn0':D.n0=0:=by rw [dn]; exact hn0
 have hi:i≤n:=hi
 have hac:lgN acc (xs.drop i)=lgN 0 xs:=hac
 have hab:acc≤2000000:=hab
 show Run D _ _ (slLg i acc) (enLg a n c cs fl)
 by_cases hin:i < n
 rotate_left
 ·have q1:decide ((i:Int) < (n:Int))=false:=decide_eq_false (by omega)
  rw [List.drop_of_length_le (by omega)] at hac
  (refine zA4 hctr (rs:=res8) true 300 _ _ _ ?_; simp (maxSteps:=1000000) only [VT,jg,jd,qH,qI,qK,qN,qO,qP,qR,qS,qV,qe,qp,ev,qy,qz,zD,zH,zI,zJ,zM,↓reduceIte,reduceCtorEq,Nat.reduceEqDiff,Nat.reduceLT,zP,zQ,zR,zW,zu,hP,hk,res8,kp8,slLg,enLg,q1])
  refine hX rfl rfl ?_
  have hP:=hP0; have hk:=hk0; have hctr:=hctr0
  (refine zA4 hctr (rs:=res8) true 300 _ _ _ ?_; simp (maxSteps:=1000000) only [VT,qE,qF,qG,qH,qI,qK,qO,qR,qS,ev,qy,qz,zI,zJ,TE.sv,↓reduceIte,reduceCtorEq,Nat.reduceEqDiff,Nat.reduceLT,zP,zQ,zR,hk,res8,kp8])
  refine fin _ _ ?_
  unfold zQ4
  rw [← hac]
  show decide _=decide (500000≤acc)
  exact decide_eq_decide.2 (by omega)
 have q1:decide ((i:Int) < (n:Int))=true:=decide_eq_true (by omega)
 by_cases hlt:acc < 500000
 rotate_left
 ·have q2:decide ((acc:Int) < 500000)=false:=decide_eq_false (by omega)
  (refine zA4 hctr (rs:=res8) true 300 _ _ _ ?_; simp (maxSteps:=1000000) only [VT,jf,jg,jZ,qH,qI,qK,qN,qO,qP,qR,qS,qV,qe,qp,ev,qy,qz,zD,zH,zI,zJ,zM,↓reduceIte,reduceCtorEq,Nat.reduceEqDiff,Nat.reduceLT,zP,zQ,zR,zV,zW,zu,hP,hk,res8,kp8,slLg,enLg,q1,q2])
  refine hX rfl rfl ?_
  have hP:=hP0; have hk:=hk0; have hctr:=hctr0
  (refine zA4 hctr (rs:=res8) true 300 _ _ _ ?_; simp (maxSteps:=1000000) only [VT,qE,qF,qG,qH,qI,qK,qO,qR,qS,ev,qy,qz,zI,zJ,TE.sv,↓reduceIte,reduceCtorEq,Nat.reduceEqDiff,Nat.reduceLT,zP,zQ,zR,hk,res8,kp8])
  refine fin _ _ ?_
  unfold zQ4
  rw [← hac,lgN_ge _ _ (by omega)]
  exact decide_eq_decide.2 (by omega)
 have q2:decide ((acc:Int) < 500000)=true:=decide_eq_true (by omega)
 have p0:(0:Int)≤(i:Int):=by omega
 have p1:(i:Int) < (n:Int):=by omega
 have p3:IntKind.i64.wrap ((i:Int)+1)=((i+1:Nat):Int):=by rw [IntWalk.i64_in _ (by omega)]; rfl
 obtain ⟨x,hx⟩:∃ x,xs[i]?=some x:=⟨_,List.getElem?_eq_getElem (by omega)⟩
 obtain ⟨g,o,rfl,_,hr1,hr2⟩:=raw_at hDS hDw ha hx
 obtain ⟨b1,b2⟩:=hb x (List.mem_of_getElem? hx)
 have hdr:xs.drop i=x :: xs.drop (i+1):=by
  have h:=(List.getElem?_eq_some_iff.1 hx).2
  rw [List.drop_eq_getElem_cons (by omega),h]
 obtain ⟨k1,hk1⟩:∃ k1:Nat,min x.key.length 500000=k1:=⟨_,rfl⟩
 obtain ⟨k2,hk2⟩:∃ k2:Nat,min x.val.length 500000=k2:=⟨_,rfl⟩
 have m1:(if (500000:Int) < (x.key.length:Int) then (500000:Int) else (x.key.length:Int))=(k1:Int):=by split <;> omega
 have m2:(if (500000:Int) < (x.val.length:Int) then (500000:Int) else (x.val.length:Int))=(k2:Int):=by split <;> omega
 have w1:IntKind.i64.wrap ((acc:Int)+2500)=(acc:Int)+2500:=IntWalk.i64_in _ (by omega)
 have w2:IntKind.i64.wrap ((acc:Int)+2500+(k1:Int))=(acc:Int)+2500+(k1:Int):=IntWalk.i64_in _ (by omega)
 have w3:IntKind.i64.wrap ((acc:Int)+2500+(k1:Int)+(k2:Int))=((acc+2500+k1+k2:Nat):Int):=by rw [IntWalk.i64_in _ (by omega)]; rfl
 (refine zA4 hctr (rs:=res8) true 300 _ _ _ ?_; simp (maxSteps:=1000000) only [VT,jf,jZ,qH,qI,qK,qN,qO,qP,qR,qS,qV,qe,qp,ev,qy,qz,zD,zI,zJ,zM,↓reduceIte,reduceCtorEq,Nat.reduceEqDiff,Nat.reduceLT,zP,zQ,zR,zV,zu,hP,hk,res8,kp8,slLg,enLg,q1,q2])
 (refine zB9 hctr (by rw [hP]; rfl) rs8_5 [] (ensure_type_of% (Cmp.of (by simp (maxSteps := 1000000) only [qK, qN, qO, qP, qR, qS, qV, qX, qe, qn, ev, qy, qz, zD, zM, ↓reduceIte, Nat.reduceEqDiff, zT, zh, zu, cE, jA, jC, jD, jN, hP, p0, p1, hr1, hr2, m1, m2, w1, w2, w3]; rfl)) "" Cmp.mk) (by kernel_rfl) (by kernel_rfl) (by first | exact zA1 _ | kernel_rfl) (by kernel_rfl) (by rfl) (by rfl) (by first | exact zA0 _ | rfl) (by rfl) ?_ ?_; rotate_left; refine zA4 hctr (rs := res8) true 300 _ _ _ ?_; simp (maxSteps := 1000000) only [VT, qH, qI, qK, qO, qR, qS, ev, qy, qz, zG, zI, zJ, ↓reduceIte, reduceCtorEq, Nat.reduceEqDiff, Nat.reduceAdd, Nat.reduceLT, zP, zQ, zR, zt, jN, jO, hk, kp8, Nat.reduceAdd, p3]; rotate_left; simp (maxSteps := 1000000) only [qK, qN, qO, qP, qR, qS, qV, qX, qe, qn, ev, qy, qz, zD, zM, ↓reduceIte, Nat.reduceEqDiff, zT, zh, zn, zt, zu, jD, jN, jP, jQ, jR, jS, jT, hP, p0, p1, hr1, hr2, m1, m2, w1, w2, w3])
 refine hJ ⟨(i+1,acc+2500+k1+k2),by omega,?_,by show acc+2500+k1+k2≤2000000; omega⟩ _ (by show n - (i+1) < n - i; omega) (zC6 ⟨rfl,rfl,rfl,trivial⟩)
 show lgN (acc+2500+k1+k2) (xs.drop (i+1))=lgN 0 xs
 rw [← hac,hdr]
 conv=>rhs; unfold lgN
 rw [if_pos hlt,hk1,hk2]
theorem right8_w {w:World} (x:It) (hkl:x.key.length≤9223372036854775807) (hvl:x.val.length≤9223372036854775807) :
  Calls Tryz.prog 20 #[.agg (itA x)] w fun e w'=>e=.returned (.bool (itR x))∧Below w.heap.size w w':=by
 refine zA9 Tryz.func20 rfl kp20 (S:=Non) (ρ:=fun _=>⟨0,[],[],0,none⟩) (en:=[]) [.g (itS x)] Tryz.ntmps20 (At.nil _ _ _) (by intro y hy; simp only [List.mem_cons,List.not_mem_nil,or_false] at hy; subst hy; exact zI2 _ _) (by simp) ?_
 intro C hC hP hk
 have hS:C.S=Non:=by rw [hC]; rfl
 have hw:C.w0=w:=by rw [hC]; rfl
 have hn0:C.n0=0:=by rw [hC]; rfl
 have hctr:=ryC_ok hP
 have fin:∀ b en,b=itR x→Fin C res20 (.c (.b b)) en:=fun b en hb=>by subst hb; exact zL9 (v:=.c (.b (itR x))) hC hres20 rfl trivial
 have hval:((x.val.length:Int)≤65536)=(x.val.length≤65536):=propext (by omega)
 cases h1:zS6 x.key with
 | false =>
  (refine zA4 hctr (rs:=res20) true 300 _ _ _ ?_; simp (maxSteps:=1000000) only [VT,jg,jd,qE,qF,qG,qH,qI,qK,qO,qP,qV,qp,q0t,qu,qv,ev,qw,qy,qz,zD,zF,zG,zI,zJ,TE.sv,zK,zM,↓reduceIte,reduceCtorEq,Nat.reduceEqDiff,Nat.reduceLT,zP,zQ,zR,zW,zu,hP,hk,res20,kp20,ryC,itS,h1,hkl])
  exact fin false _ (by unfold itR; rw [h1]; rfl)
 | true =>
 by_cases h2:(x.val.length:Int)≤65536
 rotate_left
 ·have h2':decide ((x.val.length:Int)≤65536)=false:=decide_eq_false h2
  (refine zA4 hctr (rs:=res20) true 300 _ _ _ ?_; simp (maxSteps:=1000000) only [VT,jf,jg,jZ,jd,qE,qF,qG,qH,qI,qK,qN,qO,qP,qR,qS,qV,qe,qp,q0t,qu,qv,ev,qw,qy,qz,zD,zF,zG,zI,zJ,TE.sv,zK,zM,↓reduceIte,reduceCtorEq,Nat.reduceEqDiff,Nat.reduceLT,zP,zQ,zR,zV,zW,zt,zu,hP,hk,res20,kp20,ryC,itS,h1,hkl,h2'])
  exact fin false _ (by unfold itR; rw [h1,decide_eq_false (show ¬ x.val.length≤65536 by omega)]; rfl)
 have h2':decide ((x.val.length:Int)≤65536)=true:=decide_eq_true h2
 by_cases h3:0≤x.exp
 rotate_left
 ·have h3':decide (0≤x.exp)=false:=decide_eq_false h3
  (refine zA4 hctr (rs:=res20) true 300 _ _ _ ?_; simp (maxSteps:=1000000) only [VT,jf,jg,jZ,jd,qE,qF,qG,qH,qI,qK,qN,qO,qP,qR,qS,qV,qe,qp,q0t,qu,qv,ev,qw,qy,qz,zD,zF,zG,zI,zJ,TE.sv,zK,zM,↓reduceIte,reduceCtorEq,Nat.reduceEqDiff,Nat.reduceLT,zP,zQ,zR,zV,zW,zt,zu,hP,hk,res20,kp20,ryC,itS,h1,hkl,h2',h3'])
  exact fin false _ (by unfold itR; rw [h3']; simp)
 have h3':decide (0≤x.exp)=true:=decide_eq_true h3
 by_cases h4:0≤x.last
 rotate_left
 ·have h4':decide (0≤x.last)=false:=decide_eq_false h4
  (refine zA4 hctr (rs:=res20) true 300 _ _ _ ?_; simp (maxSteps:=1000000) only [VT,jf,jZ,qE,qF,qG,qH,qI,qK,qN,qO,qP,qR,qS,qV,qe,qp,q0t,qu,qv,ev,qw,qy,qz,zD,zF,zG,zI,zJ,TE.sv,zK,zM,↓reduceIte,reduceCtorEq,Nat.reduceEqDiff,Nat.reduceLT,zP,zQ,zR,zV,zt,zu,hP,hk,res20,kp20,ryC,itS,h1,hkl,h2',h3',h4'])
  exact fin false _ (by unfold itR; rw [h4']; simp)
 have h4':decide (0≤x.last)=true:=decide_eq_true h4
 (refine zA4 hctr (rs:=res20) true 300 _ _ _ ?_; simp (maxSteps:=1000000) only [VT,jf,jZ,qE,qF,qG,qH,qI,qK,qN,qO,qP,qR,qS,qV,qe,qp,q0t,qu,qv,ev,qw,qy,qz,zD,zF,zG,zI,zJ,TE.sv,zK,zM,↓reduceIte,reduceCtorEq,Nat.reduceEqDiff,Nat.reduceLT,zP,zQ,zR,zV,zt,zu,hP,hk,res20,kp20,ryC,itS,h1,hkl,h2',h3',h4'])
 exact fin true _ (by unfold itR; rw [h1,h3',h4',decide_eq_true (show x.val.length≤65536 by omega)]; rfl)
def r16C:Ctr:=fun f _ xs=>match f with
 | 20=>(match xs with
  | [.g [.s k,.i .u32 fl,.s v,.i .i64 e,.i .u64 cs,.i .i64 la,.b st,.b wo]]=>some (k.length≤9223372036854775807∧v.length≤9223372036854775807,.c (.b (itR ⟨k,fl,v,e,cs,la,st,wo⟩)))
  | _=>none)
 | _=>none
theorem r16C_ok {C:Cx} (hP:C.P=Tryz.prog):zE8 C r16C:=by
 intro f en xs p v h hp ρ w' hup hHp hHo hinj hwf
 unfold r16C at h
 split at h
 ·rw [hP]
  refine ⟨fun args w=>Tryz.call20 args w,?_⟩
  split at h <;> simp only [Option.some.injEq,Prod.mk.injEq,reduceCtorEq] at h
  obtain ⟨rfl,rfl⟩:=h
  exact ⟨trivial,right8_w ⟨_,_,_,_,_,_,_,_⟩ hp.1 hp.2⟩
 ·cases h
def slRg (i:Nat):List (Nat × SV):=[(3,.c (.i .i64 (i:Int))),(1,.c (.p 0 0))]
theorem right_w {w:World} {a:Option Addr} {n c:Nat} (X:St) (ha:RawI w a X.items) (hn:n=X.items.length) (hl:n≤9223372036854775807) (hb:∀ x∈X.items,x.key.length≤9223372036854775807∧x.val.length≤9223372036854775807) :
  Calls Tryz.prog 9 #[.agg #[.slice a n c,.int .u64 X.cas,.int .i64 X.flush]] w fun e w'=>e=.returned (.bool (zL6 X))∧Below w.heap.size w w':=by
 refine zA9 Tryz.func9 rfl kp9 (S:=Non) (ρ:=fun _=>⟨0,[],[],0,none⟩) (en:=[]) [.g [.v (.slice a n c),.i .u64 X.cas,.i .i64 X.flush]] Tryz.ntmps9 (At.nil _ _ _) (by intro y hy; simp only [List.mem_cons,List.not_mem_nil,or_false] at hy; subst hy; exact zD6 trivial) (by simp) ?_
 intro C hC hP hk
 have hS:C.S=Non:=by rw [hC]; rfl
 have hw:C.w0=w:=by rw [hC]; rfl
 have hn0:C.n0=0:=by rw [hC]; rfl
 have hctr:=r16C_ok hP
 have fin:∀ b en,b=zL6 X→Fin C res9 (.c (.b b)) en:=fun b en hb=>by subst hb; exact zL9 (v:=.c (.b (zL6 X))) hC hres9 rfl trivial
 (refine zA4 hctr (rs:=res9) true 300 _ _ _ ?_; simp (maxSteps:=1000000) only [VT,qH,qI,qK,qO,q0t,qu,qv,ev,qy,qz,zF,zG,zI,zJ,zK,↓reduceIte,reduceCtorEq,Value.oneCell',Nat.reduceEqDiff,Nat.reduceLT,zP,zR,hk,kp9])
 refine zL1 (ι:={ i:Nat // i≤n∧(∀ (j:Nat) x,j < i→X.items[j]?=some x→itR x=true)∧(∀ (j:Nat) x y,j+1 < i→X.items[j]?=some x→X.items[j+1]?=some y→Op.bytesLess x.key y.key=true) }) (fun i=>slRg i.1) (fun _=>enLg a n c X.cas X.flush) (fun i=>n - i.1) ⟨0,Nat.zero_le _,fun j x hj=>absurd hj (Nat.not_lt_zero _),fun j x y hj=>absurd hj (Nat.not_lt_zero _)⟩ (zC6 ⟨rfl,rfl,trivial⟩) rfl ?_
 rintro ⟨i,hi,hr1,hr2⟩ D dP dS dw dn dr dk ddf dPan dRet hX hJ
 have hP0:=hP; have hk0:=hk; have hctr0:=hctr
 have hP:D.P=Tryz.prog:=by rw [dP]; exact hP0
 have hk:D.kp=kp9:=by rw [dk]; exact hk0
 have hctr:zE8 D r16C:=r16C_ok hP
 have hDS:D.S=Non:=by rw [dS]; exact hS
 have hDw:D.w0=w:=by rw [dw]; exact hw
 have hn0':D.n0=0:=by rw [dn]; exact hn0
 have hi:i≤n:=hi
 have dFin:∀ b en,b=zL6 X→Fin D res9 (.c (.b b)) en:=fun b en hb ρ a w' hw hn hwf hd hr=>dRet _ _ (fin b en hb ρ a w' (hw.toC dS.symm dw.symm dr.symm dn.symm) (by rw [← dn]; exact hn) hwf (hd.trans ddf) (fun fn h=>by rw [← dP]; exact hr fn h))
 show Run D _ _ (slRg i) (enLg a n c X.cas X.flush)
 by_cases hin:i < n
 rotate_left
 ·have q1:decide ((i:Int) < (n:Int))=false:=decide_eq_false (by omega)
  (refine zA4 hctr (rs:=res9) true 300 _ _ _ ?_; simp (maxSteps:=1000000) only [VT,jg,qH,qI,qK,qN,qO,qP,qR,qS,qV,qe,ev,qy,zD,zH,zI,zJ,zM,↓reduceIte,reduceCtorEq,Nat.reduceEqDiff,Nat.reduceLT,zP,zQ,zR,zW,zu,hP,hk,res9,kp9,slRg,enLg,q1])
  refine hX rfl rfl ?_
  have hP:=hP0; have hk:=hk0; have hctr:=hctr0
  (refine zA4 hctr (rs:=res9) true 300 _ _ _ ?_; simp (maxSteps:=1000000) only [VT,qE,qF,qG,qH,qI,qK,qO,qP,qR,qS,qV,ev,qy,qz,zD,zI,zJ,TE.sv,zM,↓reduceIte,reduceCtorEq,Nat.reduceEqDiff,Nat.reduceLT,zP,zQ,zR,zt,hP,hk,res9,kp9])
  refine fin _ _ ?_
  by_cases hf:0≤X.flush
  ·have hr:zY2 X:=⟨fun j x hx=>hr1 j x (by have:=(List.getElem?_eq_some_iff.1 hx).1; omega) hx,fun j x y hx hy=>hr2 j x y (by have:=(List.getElem?_eq_some_iff.1 hy).1; omega) hx hy,hf⟩
   rw [decide_eq_true hf]
   exact (rightB_t hr).symm
  ·rw [decide_eq_false hf]
   exact (rightB_f (fun hr=>hf hr.2.2)).symm
 have q1:decide ((i:Int) < (n:Int))=true:=decide_eq_true (by omega)
 have p0:(0:Int)≤(i:Int):=by omega
 have p1:(i:Int) < (n:Int):=by omega
 have p3:IntKind.i64.wrap ((i:Int)+1)=((i+1:Nat):Int):=by rw [IntWalk.i64_in _ (by omega)]; rfl
 obtain ⟨x,hx⟩:∃ x,X.items[i]?=some x:=⟨_,List.getElem?_eq_getElem (by omega)⟩
 obtain ⟨g,o,hag,hr8,hrk,_⟩:=raw_at hDS hDw ha hx
 subst hag
 obtain ⟨b1,b2⟩:=hb x (List.mem_of_getElem? hx)
 have bad:(itR x=false∨∃ y,i ≠ 0∧X.items[i - 1]?=some y∧Op.bytesLess y.key x.key=false)→zL6 X=false:=fun h=>by
  refine rightB_f fun hr=>?_
  rcases h with h | ⟨y,h0,hy,h⟩
  ·rw [hr.1 i x hx] at h; cases h
  ·obtain ⟨k,rfl⟩:∃ k,i=k+1:=⟨i - 1,by omega⟩
   rw [hr.2.1 k y x hy hx] at h; cases h
 cases h1:itR x with
 | false =>
  have h1':itR ⟨x.key,x.flags,x.val,x.exp,x.cas,x.last,x.stale,x.won⟩=false:=h1
  (refine zA4 hctr (rs:=res9) true 300 _ _ _ ?_; simp (maxSteps:=1000000) only [VT,jf,qH,qI,qK,qN,qO,qP,qR,qS,qV,qX,qe,ev,qw,qy,zD,zI,zJ,zM,↓reduceIte,reduceCtorEq,Nat.reduceEqDiff,Nat.reduceLT,zP,zQ,zR,zT,zV,zh,zo,zu,hP,hk,res9,kp9,r16C,itS,slRg,enLg,p0,p1,hr8,h1',b1,b2])
  (refine zB9 hctr (by rw [hP]; rfl) rs9_5 [] (ensure_type_of% (Cmp.of (by simp (maxSteps := 1000000) only [qK, qO, qT, qp, ev, qy, qz, zD, ↓reduceIte, Nat.reduceEqDiff, zW, cE, jA, jC, jD, jE, jN]; rfl)) "" Cmp.mk) (by kernel_rfl) (by kernel_rfl) (by first | exact zA1 _ | kernel_rfl) (by kernel_rfl) (by rfl) (by rfl) (by first | exact zA0 _ | rfl) (by rfl) ?_ ?_; rotate_left; refine zA4 hctr (rs := res9) true 300 _ _ _ ?_; simp (maxSteps := 1000000) only [VT, jf, qE, qF, qG, qH, qI, qK, qO, ev, qy, qz, zG, zI, zJ, TE.sv, ↓reduceIte, reduceCtorEq, Nat.reduceEqDiff, Nat.reduceAdd, Nat.reduceLT, zP, zQ, zR, zV, zt, jN, jO, hk, res9, kp9, Nat.reduceAdd]; rotate_left; simp (maxSteps := 1000000) only [qK, qO, qT, qp, ev, qy, qz, zD, ↓reduceIte, Nat.reduceEqDiff, zT, zW, zn, zt, jD, jE, jN, jP, jQ, jR, jS, jT])
  exact dFin false _ (bad (.inl h1)).symm
 | true =>
 have h1':itR ⟨x.key,x.flags,x.val,x.exp,x.cas,x.last,x.stale,x.won⟩=true:=h1
 by_cases hi0:i=0
 ·have z1:decide ((0:Int) < (i:Int))=false:=decide_eq_false (by omega)
  (refine zA4 hctr (rs:=res9) true 300 _ _ _ ?_; simp (maxSteps:=1000000) only [VT,jf,qH,qI,qK,qN,qO,qP,qR,qS,qV,qX,qe,ev,qw,qy,zD,zI,zJ,zM,↓reduceIte,reduceCtorEq,Nat.reduceEqDiff,Nat.reduceLT,zP,zQ,zR,zT,zV,zh,zo,zu,hP,hk,res9,kp9,r16C,itS,slRg,enLg,p0,p1,hr8,h1',b1,b2])
  (refine zB9 hctr (by rw [hP]; rfl) rs9_5 [] (ensure_type_of% (Cmp.of (by simp (maxSteps := 1000000) only [qK, qO, qR, qS, qT, qp, ev, qy, qz, zD, ↓reduceIte, Nat.reduceEqDiff, zV, cE, jA, jC, jD, jE, jN, z1]; rfl)) "" Cmp.mk) (by kernel_rfl) (by kernel_rfl) (by first | exact zA1 _ | kernel_rfl) (by kernel_rfl) (by rfl) (by rfl) (by first | exact zA0 _ | rfl) (by rfl) ?_ ?_; rotate_left; refine zA4 hctr (rs := res9) true 300 _ _ _ ?_; simp (maxSteps := 1000000) only [VT, jg, qH, qI, qK, qO, qR, qS, ev, qy, qz, zG, zI, zJ, ↓reduceIte, reduceCtorEq, Nat.reduceEqDiff, Nat.reduceAdd, Nat.reduceLT, zP, zQ, zR, zW, zt, jN, jO, hk, res9, kp9, Nat.reduceAdd, p3]; rotate_left; simp (maxSteps := 1000000) only [qK, qO, qR, qS, qT, qp, ev, qy, qz, zD, ↓reduceIte, Nat.reduceEqDiff, zT, zV, zn, zt, jD, jE, jN, jP, jQ, jR, jS, jT, z1])
  refine hJ ⟨i+1,by omega,fun j y hj hy=>?_,fun j x y hj=>by omega⟩ _ (by show n - (i+1) < n - i; omega) (zC6 ⟨rfl,rfl,trivial⟩)
  obtain rfl:j=i:=by omega
  rw [hx] at hy; cases hy; exact h1
 have z1:decide ((0:Int) < (i:Int))=true:=decide_eq_true (by omega)
 obtain ⟨y,hy⟩:∃ y,X.items[i - 1]?=some y:=⟨_,List.getElem?_eq_getElem (by omega)⟩
 obtain ⟨g',o',hag,_,hry,_⟩:=raw_at hDS hDw ha hy
 cases hag
 have z2:IntKind.i64.wrap ((i:Int) - 1)=((i - 1:Nat):Int):=by rw [IntWalk.i64_in _ (by omega)]; omega
 have z3:(0:Int)≤((i - 1:Nat):Int):=by omega
 have z4:((i - 1:Nat):Int) < (n:Int):=by omega
 cases h2:Op.bytesLess y.key x.key with
 | false =>
  (refine zA4 hctr (rs:=res9) true 300 _ _ _ ?_; simp (maxSteps:=1000000) only [VT,jf,qH,qI,qK,qN,qO,qP,qR,qS,qV,qX,qe,ev,qw,qy,zD,zI,zJ,zM,↓reduceIte,reduceCtorEq,Nat.reduceEqDiff,Nat.reduceLT,zP,zQ,zR,zT,zV,zh,zo,zu,hP,hk,res9,kp9,r16C,itS,slRg,enLg,p0,p1,hr8,h1',b1,b2])
  (refine zB9 hctr (by rw [hP]; rfl) rs9_5 [] (ensure_type_of% (Cmp.of (by simp (maxSteps := 1000000) only [qK, qO, qP, qR, qS, qT, qV, qX, qp, ev, qy, qz, zD, zM, ↓reduceIte, Nat.reduceEqDiff, zT, zV, zW, zh, zu, cE, jA, jC, jD, jE, jN, hP, p0, p1, hrk, hry, z1, z2, z3, z4, h2]; rfl)) "" Cmp.mk) (by kernel_rfl) (by kernel_rfl) (by first | exact zA1 _ | kernel_rfl) (by kernel_rfl) (by rfl) (by rfl) (by first | exact zA0 _ | rfl) (by rfl) ?_ ?_; rotate_left; refine zA4 hctr (rs := res9) true 300 _ _ _ ?_; simp (maxSteps := 1000000) only [VT, jf, qE, qF, qG, qH, qI, qK, qO, ev, qy, qz, zG, zI, zJ, TE.sv, ↓reduceIte, reduceCtorEq, Nat.reduceEqDiff, Nat.reduceAdd, Nat.reduceLT, zP, zQ, zR, zV, zt, jN, jO, hk, res9, kp9, Nat.reduceAdd]; rotate_left; simp (maxSteps := 1000000) only [qK, qO, qP, qR, qS, qT, qV, qX, qp, ev, qy, qz, zD, zM, ↓reduceIte, Nat.reduceEqDiff, zT, zV, zW, zh, zn, zt, zu, jD, jE, jN, jP, jQ, jR, jS, jT, hP, p0, p1, hrk, hry, z1, z2, z3, z4, h2])
  exact dFin false _ (bad (.inr ⟨y,hi0,hy,h2⟩)).symm
 | true =>
  (refine zA4 hctr (rs:=res9) true 300 _ _ _ ?_; simp (maxSteps:=1000000) only [VT,jf,qH,qI,qK,qN,qO,qP,qR,qS,qV,qX,qe,ev,qw,qy,zD,zI,zJ,zM,↓reduceIte,reduceCtorEq,Nat.reduceEqDiff,Nat.reduceLT,zP,zQ,zR,zT,zV,zh,zo,zu,hP,hk,res9,kp9,r16C,itS,slRg,enLg,p0,p1,hr8,h1',b1,b2])
  (refine zB9 hctr (by rw [hP]; rfl) rs9_5 [] (ensure_type_of% (Cmp.of (by simp (maxSteps := 1000000) only [qK, qO, qP, qR, qS, qT, qV, qX, qp, ev, qy, qz, zD, zM, ↓reduceIte, Nat.reduceEqDiff, zT, zV, zh, zu, cE, jA, jC, jD, jE, jN, hP, p0, p1, hrk, hry, z1, z2, z3, z4, h2]; rfl)) "" Cmp.mk) (by kernel_rfl) (by kernel_rfl) (by first | exact zA1 _ | kernel_rfl) (by kernel_rfl) (by rfl) (by rfl) (by first | exact zA0 _ | rfl) (by rfl) ?_ ?_; rotate_left; refine zA4 hctr (rs := res9) true 300 _ _ _ ?_; simp (maxSteps := 1000000) only [VT, jg, qH, qI, qK, qO, qR, qS, ev, qy, qz, zG, zI, zJ, ↓reduceIte, reduceCtorEq, Nat.reduceEqDiff, Nat.reduceAdd, Nat.reduceLT, zP, zQ, zR, zW, zt, jN, jO, hk, res9, kp9, Nat.reduceAdd, p3]; rotate_left; simp (maxSteps := 1000000) only [qK, qO, qP, qR, qS, qT, qV, qX, qp, ev, qy, qz, zD, zM, ↓reduceIte, Nat.reduceEqDiff, zT, zV, zh, zn, zt, zu, jD, jE, jN, jP, jQ, jR, jS, jT, hP, p0, p1, hrk, hry, z1, z2, z3, z4, h2])
  refine hJ ⟨i+1,by omega,fun j z hj hz=>?_,fun j u v hj hu hv=>?_⟩ _ (by show n - (i+1) < n - i; omega) (zC6 ⟨rfl,rfl,trivial⟩)
  ·rcases Nat.lt_or_ge j i with h | h
   ·exact hr1 j z h hz
   ·obtain rfl:j=i:=by omega
    rw [hx] at hz; cases hz; exact h1
  ·rcases Nat.lt_or_ge (j+1) i with h | h
   ·exact hr2 j u v h hu hv
   ·obtain rfl:i=j+1:=by omega
    rw [hx] at hv; cases hv
    rw [show j+1 - 1=j from rfl] at hy
    rw [hy] at hu; cases hu; exact h2
end Go.Proofs.YtfpeholdlkfmoaaGreatDoor
/- ModelApplies: the walk. Printed by gen_ape.py. -/
namespace Go.Proofs.YtfpeholdlkfmoaaGreatDoor
set_option linter.unusedSimpArgs false
set_option linter.unusedVariables false
set_option maxHeartbeats 8000000
open Go.RowKit
set_option maxRecDepth 100000
def rowLg (X:St) (a:Option Addr) (n c:Nat):List SV→Option (Prop × SV)
 | [.g [.v (.slice a' n' c'),.i .u64 _,.i .i64 _]]=>some (a'=a∧n'=n∧c'=c,.c (.b (zQ4 X.items)))
 | _=>none
noncomputable def rowRg (X:St) (a:Option Addr) (n c:Nat):List SV→Option (Prop × SV)
 | [.g [.v (.slice a' n' c'),.i .u64 cs,.i .i64 fl]]=>some (a'=a∧n'=n∧c'=c∧cs=X.cas∧fl=X.flush,.c (.b (zL6 X)))
 | _=>none
def rowSm (X:St) (a:Option Addr) (n c:Nat) (L:List It) (en:List EN):List SV→Option (Prop × SV)
 | [.g [.rw d m,.i .u64 c1,.i .i64 f1],.g [.rw d' m',.i .u64 c2,.i .i64 f2]]=>some (zD en d=some (owE L)∧zD en d'=some (owE L)∧m=L.length∧m'=L.length∧c1=c2∧f1=f2∧L.length≤100000000,.c (.b true))
 | [.g [.rw d m,.i .u64 c1,.i .i64 f1],.g [.v (.slice a' n' c'),.i .u64 c2,.i .i64 f2]]=>some (zD en d=some (owE X.items)∧m=n∧a'=a∧n'=n∧c'=c∧c1=c2∧f1=f2∧n≤100000000,.c (.b true))
 | _=>none
noncomputable def laC (X:St) (a:Option Addr) (n c:Nat) (L:List It):Ctr:=fun f en xs=>match f with
 | 8=>rowLg X a n c xs
 | 9=>rowRg X a n c xs
 | 13=>rowSm X a n c L en xs
 | _=>shC f en xs
theorem laC_ok {C:Cx} {w:World} {X:St} {a:Option Addr} {n c:Nat} {L:List It} (hP:C.P=Tryz.prog) (hS:C.S=Non) (hw:C.w0=w) (hE:EnvC C) (ha:RawI w a X.items) (hn:n=X.items.length) (hl:n≤9223372036854775807) (hb:∀ x∈X.items,x.key.length≤9223372036854775807∧x.val.length≤9223372036854775807):zE8 C (laC X a n c L):=by
 intro f en xs p v h hp ρ w' hup hHp hHo hinj hwf
 have hu:Upd Non w w':=by rw [← hS,← hw]; exact hup
 have ha':=ha.below hu.to_below
 unfold laC at h
 split at h
 ·rw [hP]
  refine ⟨fun args w=>Tryz.call8 args w,?_⟩
  unfold rowLg at h
  split at h <;> simp only [Option.some.injEq,Prod.mk.injEq,reduceCtorEq] at h
  obtain ⟨rfl,rfl⟩:=h
  obtain ⟨rfl,rfl,rfl⟩:=hp
  exact ⟨trivial,large_w X.items _ _ ha' hn hl hb⟩
 ·rw [hP]
  refine ⟨fun args w=>Tryz.call9 args w,?_⟩
  unfold rowRg at h
  split at h <;> simp only [Option.some.injEq,Prod.mk.injEq,reduceCtorEq] at h
  obtain ⟨rfl,rfl⟩:=h
  obtain ⟨rfl,rfl,rfl,rfl,rfl⟩:=hp
  exact ⟨trivial,right_w X ha' hn hl hb⟩
 ·rw [hP]
  refine ⟨fun args w=>Tryz.call13 args w,?_⟩
  unfold rowSm at h
  split at h <;> simp only [Option.some.injEq,Prod.mk.injEq,reduceCtorEq] at h
  ·rename_i d m c1 f1 d' m' c2 f2
   obtain ⟨rfl,rfl⟩:=h
   obtain ⟨h1,h2,rfl,rfl,rfl,rfl,h3⟩:=hp
   refine ⟨trivial,?_⟩
   have l1:d < en.length:=by rw [zA8] at h1; exact (List.getElem?_eq_some_iff.1 h1).1
   have l2:d' < en.length:=by rw [zA8] at h2; exact (List.getElem?_eq_some_iff.1 h2).1
   obtain ⟨x,y,e1,r1⟩:=own_raw (own_ow hHp hHo l1 h1)
   obtain ⟨x2,y2,e2,r2⟩:=own_raw (own_ow hHp hHo l2 h2)
   have:=same_raw L c1 f1 x x2 y y2 w' r1 r2 h3
   rw [← e1,← e2] at this
   exact this
  ·rename_i d m c1 f1 a' n' c' c2 f2
   obtain ⟨rfl,rfl⟩:=h
   obtain ⟨h1,rfl,rfl,rfl,rfl,rfl,rfl,h3⟩:=hp
   refine ⟨trivial,?_⟩
   have l1:d < en.length:=by rw [zA8] at h1; exact (List.getElem?_eq_some_iff.1 h1).1
   obtain ⟨x,y,e1,r1⟩:=own_raw (own_ow hHp hHo l1 h1)
   subst hn
   have:=same_raw X.items c1 f1 x a' y c' w' r1 ha' h3
   rw [← e1] at this
   exact this
 ·exact shC_ok hP hE f en xs p v h hp ρ w' hup hHp hHo hinj hwf
def qIt:It:=⟨[63],0,[],0,0,0,false,false⟩
def slA (i:Nat) (now most:Int):List (Nat × SV):=[(15,.c (.i .i64 (i:Int))),(14,.c (.p 7 0)),(13,.c (.p 6 0)),(12,.c (.p 3 0)),(9,.c (.b true)),(6,.c (.p 1 0)),(4,.c (.p 0 0)),(3,.c (.i .i64 most)),(1,.c (.i .i64 now))]
def enA (a:Option Addr) (n c:Nat) (X:St) (cd:Cd) (R:St × An):List EN:=[⟨(25,0,whole),[.v (.slice a n c),.i .u64 X.cas,.i .i64 X.flush],true⟩,⟨(28,0,whole),cdS cd,true⟩,owE X.items,⟨(25,0,whole),[.rw 2 n,.i .u64 X.cas,.i .i64 X.flush],true⟩,owE X.items,owE R.1.items,⟨(25,0,whole),[.rw 5 R.1.items.length,.i .u64 R.1.cas,.i .i64 R.1.flush],true⟩,⟨(35,0,whole),anS R.2,true⟩]
def slI (i:Nat) (j:Nat) (now most:Int):List (Nat × SV):=(19,.c (.i .i64 (j:Int))) :: (16,.c (.p 9 0)) :: slA i now most
def enI (a:Option Addr) (n c:Nat) (X:St) (cd:Cd) (R:St × An) (L:List It):List EN:=enA a n c X cd R++[muE R.1.items.length (zB2 itS L),⟨(25,0,whole),[.rw 8 R.1.items.length,.i .u64 R.1.cas,.i .i64 R.1.flush],true⟩,⟨(35,0,whole),anS R.2,true⟩]
theorem asked_of {X:St} {cd:Cd} (h1:zQ4 X.items=false) (h2:zL6 X=true) (hcd:CdOk cd) (hv:cd.val.length≤200000) (hx:∀ x∈X.items,x.exp≤9223372036854775807):Asked X cd∧X.items.length≤200:=by
 have hlg:lgN 0 X.items < 500000:=by
  unfold zQ4 at h1
  have:=of_decide_eq_false h1
  omega
 obtain ⟨g1,g2⟩:=lgN_lt _ _ hlg
 have hb:∀ x∈X.items,x.key.length < 500000∧x.val.length < 500000∧0≤x.exp∧x.exp≤9223372036854775807:=fun x hxm=>by
  have hr:=right_item h2 hxm
  simp only [itR,Bool.and_eq_true,decide_eq_true_eq] at hr
  exact ⟨(g2 x hxm).1,(g2 x hxm).2,hr.1.2,hx x hxm⟩
 refine ⟨⟨⟨right_sorted h2,by omega,fun x hxm=>?_⟩,fun x hxm=>?_,hcd,by omega⟩,by omega⟩
 ·obtain ⟨q1,q2,q3,q4⟩:=hb x hxm
  exact ⟨by omega,by omega,by omega,q4⟩
 ·obtain ⟨q1,q2,q3,q4⟩:=hb x hxm
  exact ⟨by omega,by omega,q3,q4⟩
theorem mapp_walk {w:World} {a:Option Addr} {n c:Nat} (X:St) (ha:RawI w a X.items) (hn:n=X.items.length) (hl:n≤9223372036854775807) (hx:∀ x∈X.items,x.key.length≤9223372036854775807∧x.val.length≤9223372036854775807∧x.exp≤9223372036854775807) (now:Int) (cd:Cd) (hcd:CdOk cd) (most:Int) (hE:Env w) :
  Calls Tryz.prog 3 #[.agg #[.slice a n c,.int .u64 X.cas,.int .i64 X.flush],.int .i64 now,.agg (cdA cd),.int .i64 most] w fun e w'=>e=.returned (.bool true)∧Below w.heap.size w w':=by
 refine zA9 Tryz.func3 rfl kp3 (S:=Non) (ρ:=fun _=>⟨0,[],[],0,none⟩) (en:=[]) [.g [.v (.slice a n c),.i .u64 X.cas,.i .i64 X.flush],.c (.i .i64 now),.g (cdS cd),.c (.i .i64 most)] Tryz.ntmps3 (At.nil _ _ _) (by intro y hy; simp only [List.mem_cons,List.not_mem_nil,or_false] at hy; rcases hy with rfl | rfl | rfl | rfl; exact zD6 trivial; trivial; exact zW6 _ _; trivial) (by simp) ?_
 intro C hC hP hk
 have hS:C.S=Non:=by rw [hC]; rfl
 have hw:C.w0=w:=by rw [hC]; rfl
 have hn0:C.n0=0:=by rw [hC]; rfl
 have hEC:=envC_of hC hE
 obtain ⟨R,hR⟩:∃ R,refF X now cd most=R:=⟨_,rfl⟩
 have hb:=fun x hxm=>And.intro (hx x hxm).1 (hx x hxm).2.1
 have hctr:zE8 C (laC X a n c R.1.items):=laC_ok hP hS hw hEC ha hn hl hb
 have hcv:=hcd.val
 cases h1:zQ4 X.items with
 | true =>
  (refine zA4 hctr (rs:=res3) true 300 _ _ _ ?_; simp (maxSteps:=1000000) only [VT,jf,jd,qE,qF,qG,qH,qI,qK,qO,qP,qp,q0t,qu,qv,ev,qw,qy,qz,zA,zB,zD,zF,zG,zI,zJ,TE.sv,zK,zM,↓reduceIte,reduceCtorEq,Value.oneCell',Nat.reduceEqDiff,Nat.reduceAdd,Nat.reduceLT,zP,zQ,zR,zT,zV,zt,hP,hk,res3,kp3,laC,rowLg,rowRg,shC,cdS,Nat.reduceAdd,h1])
  exact zY7 hC hres3 rfl
 | false =>
 cases h2:zL6 X with
 | false =>
  (refine zA4 hctr (rs:=res3) true 300 _ _ _ ?_; simp (maxSteps:=1000000) only [VT,jf,jg,jZ,jd,qE,qF,qG,qH,qI,qK,qO,qP,qT,qp,q0t,qu,qv,ev,qw,qy,qz,zA,zB,zD,zF,zG,zI,zJ,TE.sv,zK,zM,↓reduceIte,reduceCtorEq,Value.oneCell',Nat.reduceEqDiff,Nat.reduceAdd,Nat.reduceLT,zP,zQ,zR,zT,zV,zW,zt,hP,hk,res3,kp3,laC,rowLg,rowRg,shC,cdS,Nat.reduceAdd,h1,h2])
  exact zY7 hC hres3 rfl
 | true =>
 by_cases h3:(200000:Int) < (cd.val.length:Int)
 ·have h3':decide ((200000:Int) < (cd.val.length:Int))=true:=decide_eq_true h3
  (refine zA4 hctr (rs:=res3) true 300 _ _ _ ?_; simp (maxSteps:=1000000) only [VT,jf,jg,jZ,qE,qF,qG,qH,qI,qK,qN,qO,qP,qR,qS,qT,qV,qe,qp,q0t,qu,qv,ev,qw,qy,qz,zA,zB,zD,zF,zG,zI,zJ,TE.sv,zK,zM,↓reduceIte,reduceCtorEq,Value.oneCell',Nat.reduceEqDiff,Nat.reduceAdd,Nat.reduceLT,zP,zQ,zR,zT,zV,zW,zt,hP,hk,res3,kp3,laC,rowLg,rowRg,shC,cdS,Nat.reduceAdd,h1,h2,h3'])
  exact zY7 hC hres3 rfl
 have h3':decide ((200000:Int) < (cd.val.length:Int))=false:=decide_eq_false h3
 obtain ⟨hA,hn2⟩:=asked_of h1 h2 hcd (by omega) (fun x hxm=>(hx x hxm).2.2)
 have hRl:R.1.items.length≤100000000:=by
  have:=ref_len X now cd most
  rw [hR] at this
  omega
 (refine zA4 hctr (rs:=res3) true 300 _ _ _ ?_; simp (maxSteps:=1000000) only [VT,jg,jZ,qH,qI,qK,qN,qO,qP,qR,qS,qT,qV,qe,qp,q0t,qu,qv,ev,qw,qy,qz,zA,zB,zD,zF,zG,zI,zJ,zK,zM,↓reduceIte,reduceCtorEq,Value.oneCell',Nat.reduceEqDiff,Nat.reduceAdd,Nat.reduceLT,zP,zQ,zR,zT,zV,zW,zt,hP,hk,res3,kp3,laC,rowLg,rowRg,shC,cdS,Nat.reduceAdd,h1,h2,h3'])
 refine zF5 rfl (.g [.rw 2 n,.i .u64 X.cas,.i .i64 X.flush]) (zF _ (owE X.items)) (copied_h (N:=2) X hP hS hw ha hn (by omega) (fun q=>by rw [zE7]; show (2≤q∧q < 2+1) ↔ q=2; omega) (by rw [hn0]; exact Nat.zero_le _) rfl (fun q h=>zD0 h)) (by rw [zE7]; omega) (by simp) ?_
 (refine zA4 hctr (rs:=res3) true 300 _ _ _ ?_; simp (maxSteps:=1000000) only [VT,qH,qI,qJ,q0t,qu,qv,ev,qy,zC,zD,zE,zF,zG,zI,zJ,zM,↓reduceIte,reduceCtorEq,Nat.reduceEqDiff,Nat.reduceAdd,Nat.reduceLT,zP,zQ,zt,jN,hP,hk,kp3,Nat.reduceAdd])
 (refine zB9 hctr (by rw [hP]; rfl) rs3_7 [jB (fun N => .g [.rw N n, .i .u64 X.cas, .i .i64 X.flush]) (fun _ => owE X.items), jB (fun N => .t [.g [.rw N R.1.items.length, .i .u64 R.1.cas, .i .i64 R.1.flush], .g (anS R.2)]) (fun _ => owE R.1.items)] (ensure_type_of% (Cmp.of (by simp (maxSteps := 1000000) only [qA, qK, qO, qP, qh, q0t, qu, qv, ev, qw, qy, zA, zB, zC, zD, zE, zF, zG, TE.sv, zM, ↓reduceIte, reduceCtorEq, Nat.reduceEqDiff, Nat.reduceAdd, zP, zt, cE, jA, jB, jC, jD, jF, jG, jH, jJ, jK, jL, jM, jN, hP, laC, shC, anS, Nat.reduceAdd]; rfl)) "" Cmp.mk) (by kernel_rfl) (by kernel_rfl) (by first | exact zA1 _ | kernel_rfl) (by kernel_rfl) (by rfl) (by rfl) (by first | exact zA0 _ | rfl) (by rfl) ?_ ?_; rotate_left; refine zA4 hctr (rs := res3) true 300 _ _ _ ?_; simp (maxSteps := 1000000) only [VT, qH, qI, qK, qO, ev, qz, zG, zI, zJ, ↓reduceIte, reduceCtorEq, Nat.reduceEqDiff, Nat.reduceAdd, Nat.reduceLT, zP, zQ, zR, zt, jN, jO, hk, kp3, Nat.reduceAdd]; rotate_left; simp (maxSteps := 1000000) only [qK, qO, qP, qh, q0t, qu, qv, ev, qw, qy, zA, zB, zC, zD, zE, zG, TE.sv, zM, ↓reduceIte, reduceCtorEq, Nat.reduceEqDiff, Nat.reduceAdd, Nat.reduceSub, Nat.reduceLeDiff, zP, zR, zS, zT, zn, zt, jD, jF, jG, jH, jN, jP, jQ, jR, jS, jT, jU, hP, Nat.reduceAdd])
 ·refine ⟨?_,?_⟩
  ·exact copied_h (N:=4) X hP hS hw ha hn (by omega) (zI7 (by simp)) (by rw [hn0]; exact Nat.zero_le _) rfl (fun q hq=>by match q with | 0=>rfl | 1=>rfl | 2=>rfl | 3=>rfl | 4=>exact absurd rfl hq | 5=>rfl | _+6=>rfl)
  ·exact refApp_h (M:=4) (N:=5) R hR hP hA rfl hn (fun q=>zG7 (nE:=4) (i:=1) (fun k=>by match k with | 0=>simp | 1=>simp | 2=>simp | 3=>simp | _+4=>simp)) (by rw [hn0]; exact Nat.zero_le _) rfl (fun q hq=>by match q with | 0=>rfl | 1=>rfl | 2=>rfl | 3=>rfl | 4=>rfl | 5=>exact absurd rfl hq | _+6=>rfl)
 refine zL1 (ι:={ i:Nat // i≤2 }) (fun i=>slA i.1 now most) (fun _=>enA a n c X cd R) (fun i=>2 - i.1) ⟨0,Nat.zero_le _⟩ (zC6 ⟨rfl,rfl,rfl,rfl,rfl,rfl,rfl,rfl,rfl,trivial⟩) rfl ?_
 rintro ⟨i,hi⟩ D dP dS dw dn dr dk ddf dPan dRet hX hJ
 have hP0:=hP; have hk0:=hk; have hctr0:=hctr; have hn00:=hn0; have hEC0:=hEC
 have hi:i≤2:=hi
 have hP:D.P=Tryz.prog:=by rw [dP]; exact hP0
 have hk:D.kp=kp3:=by rw [dk]; exact hk0
 have hDS:D.S=Non:=by rw [dS]; exact hS
 have hDw:D.w0=w:=by rw [dw]; exact hw
 have hn0:D.n0=0:=by rw [dn]; exact hn00
 have hEC:EnvC D:=by unfold EnvC; rw [dS,dw]; exact hEC0
 have hctr:zE8 D (laC X a n c R.1.items):=laC_ok hP hDS hDw hEC ha hn hl hb
 show Run D _ _ (slA i now most) (enA a n c X cd R)
 by_cases hi2:i < 2
 rotate_left
 ·have q1:decide ((i:Int) < 2)=false:=decide_eq_false (by omega)
  (refine zA4 hctr (rs:=res3) true 300 _ _ _ ?_; simp (maxSteps:=1000000) only [VT,jg,qH,qI,qK,qO,qR,qS,ev,qy,qz,zH,zI,zJ,↓reduceIte,reduceCtorEq,Nat.reduceEqDiff,Nat.reduceLT,zP,zQ,zR,zW,hk,res3,kp3,cdS,anS,slA,enA,q1])
  refine hX rfl rfl ?_
  have hP:=hP0; have hk:=hk0; have hctr:=hctr0
  have hn3:n≤100000000:=by omega
  (refine zA4 hctr (rs:=res3) true 300 _ _ _ ?_; simp (maxSteps:=1000000) only [VT,jf,jZ,qE,qF,qG,qH,qI,qK,qO,qP,qp,ev,qw,qy,qz,zA,zB,zD,zI,zJ,TE.sv,zM,↓reduceIte,reduceCtorEq,Nat.reduceEqDiff,Nat.reduceLT,zP,zQ,zR,zT,zV,hP,hk,res3,kp3,laC,rowSm,hn3])
  exact zY7 hC hres3 rfl
 have q1:decide ((i:Int) < 2)=true:=decide_eq_true (by omega)
 have p3:IntKind.i64.wrap ((i:Int)+1)=((i+1:Nat):Int):=by rw [IntWalk.i64_in _ (by omega)]; rfl
 have hRm:zB3 X now cd most=R:=by rw [← ref_eq hA.good.sorted]; exact hR
 (refine zA4 hctr (rs:=res3) true 300 _ _ _ ?_; simp (maxSteps:=1000000) only [VT,jf,qH,qI,qK,qO,qP,qR,qS,ev,qw,qy,qz,zA,zB,zD,zI,zJ,zM,↓reduceIte,reduceCtorEq,Nat.reduceEqDiff,Nat.reduceLT,zP,zQ,zR,zV,hP,hk,res3,kp3,laC,shC,cdS,anS,slA,enA,q1])
 refine zF5 rfl (.t [.g [.rw 8 R.1.items.length,.i .u64 R.1.cas,.i .i64 R.1.flush],.g (anS R.2)]) (zF _ (owE R.1.items)) (modApp_h (M:=2) (N:=8) R hRm hP hEC hA rfl hn (fun q=>by rw [zE7]; show (8≤q∧q < 8+1) ↔ q=8; omega) (by rw [hn0]; exact Nat.zero_le _) rfl (fun q h=>zD0 h)) (by rw [zE7]; omega) (by simp) ?_
 (refine zA4 hctr (rs:=res3) true 300 _ _ _ ?_; simp (maxSteps:=1000000) only [VT,jg,jZ,qH,qI,qJ,qK,qL,qM,qO,qP,qR,qT,qh,qp,q0t,qu,qv,ev,qw,qy,qz,zA,zB,zC,zD,zE,zF,zG,zI,zJ,TE.sv,zM,↓reduceIte,reduceCtorEq,Nat.reduceEqDiff,Nat.reduceAdd,Nat.reduceLT,zP,zQ,zR,zT,zV,zW,zt,zx,jN,hP,hk,res3,kp3,laC,rowSm,anS,Nat.reduceAdd,hRl,steq_an,beq_self_eq_true])
 refine zL1 (ι:={ p:Nat × List It // p.1≤R.1.items.length∧p.2.length=R.1.items.length }) (fun p=>slI i p.1.1 now most) (fun p=>enI a n c X cd R p.1.2) (fun p=>R.1.items.length - p.1.1) ⟨(0,R.1.items),Nat.zero_le _,rfl⟩ (zC6 ⟨rfl,rfl,rfl,rfl,rfl,rfl,rfl,rfl,rfl,rfl,rfl,trivial⟩) rfl ?_
 rintro ⟨⟨j,L⟩,hj,hL⟩ E eP eS ew en er ek edf ePan eRet gX gJ
 have hP1:=hP; have hk1:=hk; have hctr1:=hctr; have hn01:=hn0
 have hj:j≤R.1.items.length:=hj
 have hL:L.length=R.1.items.length:=hL
 have hP:E.P=Tryz.prog:=by rw [eP]; exact hP1
 have hk:E.kp=kp3:=by rw [ek]; exact hk1
 have hES:E.S=Non:=by rw [eS]; exact hDS
 have hEw:E.w0=w:=by rw [ew]; exact hDw
 have hn0:E.n0=0:=by rw [en]; exact hn01
 have hEE:EnvC E:=by unfold EnvC; rw [eS,ew]; exact hEC
 have hctr:zE8 E (laC X a n c R.1.items):=laC_ok hP hES hEw hEE ha hn hl hb
 show Run E _ _ (slI i j now most) (enI a n c X cd R L)
 by_cases hjn:j < R.1.items.length
 rotate_left
 ·have q2:decide ((j:Int) < (R.1.items.length:Int))=false:=decide_eq_false (by omega)
  (refine zA4 hctr (rs:=res3) true 300 _ _ _ ?_; simp (maxSteps:=1000000) only [VT,jg,qH,qI,qK,qN,qO,qP,qR,qS,qV,qe,ev,qy,zD,zH,zI,zJ,zM,↓reduceIte,reduceCtorEq,Nat.reduceEqDiff,Nat.reduceLT,zP,zQ,zR,zW,zu,hP,hk,res3,kp3,cdS,anS,slI,enI,slA,enA,q2,List.cons_append,List.nil_append])
  refine gX rfl rfl ?_
  have hP:=hP1; have hk:=hk1; have hctr:=hctr1; have hn0:=hn01
  (refine zA4 hctr (rs:=res3) true 300 _ _ _ ?_; simp (maxSteps:=1000000) only [VT,qH,qI,qK,qO,qR,qS,ev,qy,qz,zI,zJ,↓reduceIte,reduceCtorEq,Nat.reduceEqDiff,Nat.reduceLT,zP,zQ,zR,hk,kp3,p3])
  refine Run_keep (f:=fun q=>q) (enK:=enA a n c X cd R) (slK:=slA (i+1) now most) hn0 (fun _ _ _ _ h=>h) ?_ ?_ (hJ ⟨i+1,by omega⟩ _ (by show 2 - (i+1) < 2 - i; omega) (fun d v h=>h))
  ·exact ⟨⟨_,rfl,fun ρ=>rfl,zD6 trivial⟩,⟨_,rfl,fun ρ=>rfl,zW6 _ _⟩,⟨_,rfl,fun ρ=>rfl,zD7 _ _⟩,⟨_,rfl,fun ρ=>rfl,zD6 (by show 2 < 8; decide)⟩,⟨_,rfl,fun ρ=>rfl,zD7 _ _⟩,⟨_,rfl,fun ρ=>rfl,zD7 _ _⟩,⟨_,rfl,fun ρ=>rfl,zD6 (by show 5 < 8; decide)⟩,⟨_,rfl,fun ρ=>rfl,zZ1 _ _⟩,trivial⟩
  ·exact ⟨⟨trivial,_,rfl,fun ρ=>rfl⟩,⟨(by show 7 < 8; decide),_,rfl,fun ρ=>rfl⟩,⟨(by show 6 < 8; decide),_,rfl,fun ρ=>rfl⟩,⟨(by show 3 < 8; decide),_,rfl,fun ρ=>rfl⟩,⟨trivial,_,rfl,fun ρ=>rfl⟩,⟨(by show 1 < 8; decide),_,rfl,fun ρ=>rfl⟩,⟨(by show 0 < 8; decide),_,rfl,fun ρ=>rfl⟩,⟨trivial,_,rfl,fun ρ=>rfl⟩,⟨trivial,_,rfl,fun ρ=>rfl⟩,trivial⟩
 have q2:decide ((j:Int) < (R.1.items.length:Int))=true:=decide_eq_true (by omega)
 have p0:(0:Int)≤(j:Int):=by omega
 have p1:(j:Int) < (R.1.items.length:Int):=by omega
 have p4:IntKind.i64.wrap ((j:Int)+1)=((j+1:Nat):Int):=by rw [IntWalk.i64_in _ (by omega)]; rfl
 obtain ⟨x,hxj⟩:∃ x,L[j]?=some x:=⟨_,List.getElem?_eq_getElem (by omega)⟩
 have hly:zC (j * 8) [.s [63],.i .u32 0,.s [],.i .i64 0,.i .u64 0,.i .i64 0,.b false,.b false] (zB2 itS L)=some (zB2 itS (L.set j qIt)):=flatG_lay (y:=qIt) zK0 hxj
 (refine zA4 hctr (rs:=res3) true 18 _ _ _ ?_; simp (maxSteps:=1000000) only [VT,jf,qH,qI,qK,qN,qO,qP,qR,qS,qV,qe,qf,qg,q0t,ev,qy,qz,zC,zD,zI,zJ,zM,↓reduceIte,reduceCtorEq,Nat.reduceEqDiff,Nat.reduceLT,zP,zQ,zR,zV,zu,hP,hk,res3,kp3,cdS,anS,slI,enI,slA,enA,q2,List.cons_append,List.nil_append])
 refine Run_alias (M:={ m:Nat // R.1.items.length≤m∧m≤maxLen }) (Φ:=fun m ρ=>(SC.sl 8 0 R.1.items.length m.1).den ρ=(SC.rw 8 R.1.items.length).den ρ) (en':=fun _=>enI a n c X cd R L) (sl':=fun m=>(80,.g (itS qIt)) :: (79,.c (.i .i64 (j:Int))) :: (78,.c (.sl 8 0 R.1.items.length m.1)) :: slI i j now most) (fun ρ w hw=>row_slQ (N:=8) (n:=R.1.items.length) hw rfl (by omega)) (fun _=>zX0 _ _ _) (fun m=>⟨⟨_,rfl,fun _ _=>rfl,id⟩,⟨_,rfl,fun _ _=>rfl,id⟩,⟨_,rfl,fun _ h=>h,id⟩,⟨_,rfl,fun _ _=>rfl,id⟩,⟨_,rfl,fun _ _=>rfl,id⟩,⟨_,rfl,fun _ _=>rfl,id⟩,⟨_,rfl,fun _ _=>rfl,id⟩,⟨_,rfl,fun _ _=>rfl,id⟩,⟨_,rfl,fun _ _=>rfl,id⟩,⟨_,rfl,fun _ _=>rfl,id⟩,⟨_,rfl,fun _ _=>rfl,id⟩,⟨_,rfl,fun _ _=>rfl,id⟩,⟨_,rfl,fun _ _=>rfl,id⟩,⟨_,rfl,fun _ _=>rfl,id⟩,trivial⟩) fun m=>?_
 (refine zA4 hctr (rs:=res3) true 300 _ _ _ ?_; simp (maxSteps:=1000000) only [VT,qH,qI,qJ,qK,qO,qR,qS,qX,q0t,qu,qv,ev,qy,qz,zD,zE,zG,zI,zJ,zM,↓reduceIte,reduceCtorEq,Nat.reduceEqDiff,Nat.reduceAdd,Nat.reduceLT,zP,zQ,zR,zT,zh,zt,hP,hk,kp3,cdS,anS,Nat.reduceAdd,slI,enI,slA,enA,muE,p0,p1,p4,hly,qIt,itS,List.cons_append,List.nil_append])
 exact gJ ⟨(j+1,L.set j qIt),by omega,by rw [List.length_set]; exact hL⟩ _ (by show R.1.items.length - (j+1) < R.1.items.length - j; omega) (zC6 ⟨rfl,rfl,rfl,rfl,rfl,rfl,rfl,rfl,rfl,rfl,rfl,trivial⟩)
end Go.Proofs.YtfpeholdlkfmoaaGreatDoor
