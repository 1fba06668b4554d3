/- Structs compared: cell by cell, nested structs too. -/
import Derived.Test.YtcbmlanpianclaaGreatDoorBS04
import Derived.Test.YtcbmlanpianclaaGreatDoorBS07
import Derived.Test.YtcbmlanpianclaaGreatDoorBS13
import Derived.Test.YtcbmlanpianclaaGreatDoorBS08
import Derived.Test.YtcbmlanpianclaaGreatDoorBS12
namespace Go.Proofs.YtcbmlanpianclaaGreatDoor
set_option linter.unusedSimpArgs false
set_option linter.unusedVariables false
open Go.RowKit
def ckB (P:Program):Nat→Nat→List Field→List SC→List SC→Option (List SC × List SC)
 | 0,_,_,_,_=>none
 | _+1,_,[],l,m=>some (l,m)
 | n + 1, o, f :: fs, l, m => if f.name = "_" ∨ f.offset ≠ o then none else match P.underlying f.type, l, m with
  | some (.int _),.i k _ :: l,.i k' _ :: m=>if k=k' then ckB P n (o+1) fs l m else none
  | some .string,.s _ :: l,.s _ :: m=>ckB P n (o+1) fs l m
  | some .bool,.b _ :: l,.b _ :: m=>ckB P n (o+1) fs l m
  | some (.struct gs),l,m=>if P.stoodInHeld f.type then none else match ckB P n 0 gs.toList l m with
   | some (l',m')=>if P.info? f.type |>.any (fun i=>i.size+l'.length == l.length && i.size+m'.length == m.length) then ckB P n (o+(l.length - l'.length)) fs l' m' else none
   | none=>none
  | _,_,_=>none
theorem eqCs_app:∀ {a c b d:List SC},a.length=c.length→qM (a++b) (c++d)=(qM a c && qM b d)
 | [],[],_,_,_=>by simp [qM]
 | x :: a,y :: c,b,d,h=>by
  simp only [List.cons_append,qM,eqCs_app (a:=a) (c:=c) (by simpa using h),Bool.and_assoc]
 | [],_ :: _,_,_,h=>by simp at h
 | _ :: _,[],_,_,h=>by simp at h
section
variable {P:Program}
theorem part_cell {t:TypeId} {d:TypeDesc} {xs:Array Value} {o:Nat} {v:Value} (w:World) (ht:P.underlying t=some d) (ha:aggD (some d)=false) (hx:xs[o]?=some v):(part t xs o).run P w=.ok v w:=by
 have:=zS4 (P:=P) (w:=w) ht
 rw [ha] at this
 simp [part,this,hx]
theorem part_agg {t:TypeId} {d:TypeDesc} {i:TypeInfo} {xs:Array Value} {o:Nat} (w:World) (ht:P.underlying t=some d) (hi:P.info? t=some i) (ha:aggD (some d)=true):(part t xs o).run P w=.ok (.agg (xs.extract o (o+i.size))) w:=by
 have:=zS4 (P:=P) (w:=w) ht
 rw [ha] at this
 simp [part,this,zE0 hi]
theorem bs_list (l:List UInt8):(ByteArray.mk l.toArray).toList=l:=by rw [ByteArray.toList_eq]
theorem fields_eq {ρ:Nat→RE} {w:World}:∀ (n o:Nat) (fs:List Field) (l m l' m':List SC),ckB P n o fs l m=some (l',m') →
  ∃ l1 m1,l=l1++l'∧m=m1++m'∧l1.length=m1.length∧∀ (d:Nat) (xs ys:Array Value),(∀ (i:Nat) x,l1[i]?=some x→xs[o+i]?=some (x.den ρ))→(∀ (i:Nat) x,m1[i]?=some x→ys[o+i]?=some (x.den ρ))→(Op.eqFields (d+n) xs ys fs).run P w=.ok (qM l1 m1) w:=by
 intro n
 induction n with
 | zero=>intro o fs l m l' m' h; simp [ckB] at h
 | succ n ih =>
  intro o fs l m l' m' h
  cases fs with
  | nil =>
   simp only [ckB,Option.some.injEq,Prod.mk.injEq] at h
   obtain ⟨rfl,rfl⟩:=h
   exact ⟨[],[],rfl,rfl,rfl,fun d xs ys _ _=>by simp [Op.eqFields,qM]⟩
  | cons f fs =>
   simp only [ckB] at h
   split at h
   ·cases h
   rename_i hno
   have hname : f.name ≠ "_" := fun e => hno (.inl e)
   have hoff:f.offset=o:=Decidable.byContradiction fun e=>hno (.inr e)
   have one:∀ (x y:SC) (l0 m0:List SC) (td:TypeDesc),l=x :: l0→m=y :: m0→P.underlying f.type=some td→aggD (some td)=false→(∀ d,(Op.equalIn (d+1) f.type (x.den ρ) (y.den ρ)).run P w=.ok (qL x y) w)→ckB P n (o+1) fs l0 m0=some (l',m') →
     ∃ l1 m1,l=l1++l'∧m=m1++m'∧l1.length=m1.length∧∀ (d:Nat) (xs ys:Array Value),(∀ (i:Nat) x,l1[i]?=some x→xs[o+i]?=some (x.den ρ))→(∀ (i:Nat) x,m1[i]?=some x→ys[o+i]?=some (x.den ρ))→(Op.eqFields (d+(n+1)) xs ys (f :: fs)).run P w=.ok (qM l1 m1) w:=by
    intro x y l0 m0 td e1 e2 hu hag heq hck
    obtain ⟨l1,m1,rfl,rfl,hlen,hrun⟩:=ih (o+1) fs l0 m0 l' m' hck
    refine ⟨x :: l1,y :: m1,e1,e2,by simp [hlen],fun d xs ys hx hy=>?_⟩
    have p1:=part_cell (P:=P) w hu hag (hx 0 x rfl)
    have p2:=part_cell (P:=P) w hu hag (hy 0 y rfl)
    rw [Nat.add_zero,← hoff] at p1 p2
    have hr:=hrun (d+1) xs ys (fun i z hz=>by have:=hx (i+1) z hz; rwa [show o+(i+1)=o+1+i by omega] at this) (fun i z hz=>by have:=hy (i+1) z hz; rwa [show o+(i+1)=o+1+i by omega] at this)
    rw [show d+1+n=d+(n+1) by omega] at hr
    have he:=heq (d+n)
    rw [show d+n+1=d+(n+1) by omega] at he
    simp only [Op.eqFields,if_pos hname,Sem.run_bind,p1,p2,Result.andThen_ok,he,qM]
    cases qL x y with
    | true=>simpa using hr
    | false=>simp
   split at h
   ·rename_i q k a l0 k' b m0 hu
    split at h
    ·rename_i hk
     subst hk
     exact one (.i k a) (.i k b) l0 m0 _ rfl rfl hu rfl (fun d=>run_equalIn_int w d f.type k q a b hu) h
    ·cases h
   ·rename_i a l0 b m0 hu
    refine one (.s a) (.s b) l0 m0 _ rfl rfl hu rfl (fun d=>?_) h
    have:=run_equalIn_string (P:=P) w d f.type ⟨a.toArray⟩ ⟨b.toArray⟩ hu
    rw [bs_list,bs_list] at this
    exact this
   ·rename_i a l0 b m0 hu
    exact one (.b a) (.b b) l0 m0 _ rfl rfl hu rfl (fun d=>run_equalIn_bool' w d f.type a b hu) h
   ·rename_i l m _ _ _ gs hu
    split at h
    ·cases h
    rename_i hst
    split at h
    ·rename_i l2 m2 hck
     split at h
     ·rename_i hsz
      obtain ⟨l1,m1,rfl,rfl,hlen,hrun⟩:=ih 0 gs.toList l m l2 m2 hck
      obtain ⟨l3,m3,rfl,rfl,hlen3,hrun3⟩:=ih _ fs l2 m2 l' m' h
      cases hi:P.info? f.type with
      | none=>rw [hi] at hsz; simp at hsz
      | some i =>
       rw [hi] at hsz
       simp only [Option.any_some,Bool.and_eq_true,beq_iff_eq,List.length_append] at hsz
       have hs1:i.size=l1.length:=by omega
       have hs2:i.size=m1.length:=by omega
       refine ⟨l1++l3,m1++m3,by simp,by simp,by simp [hlen,hlen3],fun d xs ys hx hy=>?_⟩
       have p1:=part_agg (P:=P) (xs:=xs) (o:=o) w hu hi rfl
       have p2:=part_agg (P:=P) (xs:=ys) (o:=o) w hu hi rfl
       have hfo:P.fieldsOf f.type=gs:=by simp [Program.fieldsOf,hu]
       have hr:=hrun d (xs.extract o (o+i.size)) (ys.extract o (o+i.size))
        (fun j z hz=>by
         have hj:=(List.getElem?_eq_some_iff.1 hz).1
         have:=hx j z (by rw [List.getElem?_append_left hj]; exact hz)
         rw [Nat.zero_add,Array.getElem?_extract,if_pos (by
          have:=(Array.getElem?_eq_some_iff.1 this).1
          omega)]
         exact this)
        (fun j z hz=>by
         have hj:=(List.getElem?_eq_some_iff.1 hz).1
         have:=hy j z (by rw [List.getElem?_append_left hj]; exact hz)
         rw [Nat.zero_add,Array.getElem?_extract,if_pos (by
          have:=(Array.getElem?_eq_some_iff.1 this).1
          omega)]
         exact this)
       have he:=run_equalIn_struct (P:=P) w (d+n) f.type (xs.extract o (o+i.size)) (ys.extract o (o+i.size)) (by rw [hfo]; exact hu) (by simpa using hst)
       rw [hfo,hr] at he
       have hr3:=hrun3 (d+1) xs ys
        (fun j z hz=>by
         have:=hx (l1.length+j) z (by rw [List.getElem?_append_right (by omega),Nat.add_sub_cancel_left]; exact hz)
         rw [show o+((l1++(l3++l')).length - (l3++l').length)+j=o+(l1.length+j) by simp; omega]; exact this)
        (fun j z hz=>by
         have:=hy (m1.length+j) z (by rw [List.getElem?_append_right (by omega),Nat.add_sub_cancel_left]; exact hz)
         rw [show o+((l1++(l3++l')).length - (l3++l').length)+j=o+(m1.length+j) by simp; omega]; exact this)
       rw [show d+1+n=d+(n+1) by omega] at hr3
       rw [show d+n+1=d+(n+1) by omega] at he
       rw [eqCs_app hlen]
       simp only [Op.eqFields,if_pos hname,hoff,Sem.run_bind,p1,p2,Result.andThen_ok,he]
       cases qM l1 m1 with
       | true=>simpa using hr3
       | false=>simp
     ·cases h
    ·cases h
   ·cases h
theorem stEq_of {t:TypeId} {la lb:List SC} (hg:P.eqGuardType P.depth t=false) (hu:P.underlying t=some (.struct (P.fieldsOf t))) (hst:P.stoodInHeld t=false) (h:ckB P 100 0 (P.fieldsOf t).toList la lb=some ([],[])):StEq P t la lb:=by
 refine ⟨hg,fun ρ w=>?_⟩
 obtain ⟨l1,m1,e1,e2,_,hrun⟩:=fields_eq (P:=P) (ρ:=ρ) (w:=w) 100 0 _ la lb [] [] h
 rw [List.append_nil] at e1 e2
 subst e1; subst e2
 have hr:=hrun 9899 (zB8 ρ la).toArray (zB8 ρ lb).toArray (fun i x hx=>by rw [Nat.zero_add]; simp [zB8,hx]) (fun i x hx=>by rw [Nat.zero_add]; simp [zB8,hx])
 unfold Op.equal Op.maxDepth
 rw [show (10000:Nat)=9999+1 from rfl,run_equalIn_struct (P:=P) w 9999 t _ _ hu hst]
 exact hr
end
end Go.Proofs.YtcbmlanpianclaaGreatDoor
/- ambryref20.Same of two equal requests, their flags too. Printed by gen_esame.py. -/
namespace Go.Proofs.YtcbmlanpianclaaGreatDoor
set_option linter.unusedSimpArgs false
set_option linter.unusedVariables false
set_option maxHeartbeats 8000000
open Go.RowKit
set_option maxRecDepth 100000
theorem stEq_cm (a b:Cd):StEq Tryz.prog 52 (ecS a) (ecS b):=stEq_of (by kernel_rfl) (by kernel_rfl) (by kernel_rfl) (by kernel_rfl)
theorem steq_cm (o m:Int) (k v:List UInt8) (f e:Int) (he:Bool) (c:Int) (hc:Bool) (d i:Int) (dn vv:Bool) (ve rc:Int) (iv:Bool) (o' m':Int) (k' v':List UInt8) (f' e':Int) (he':Bool) (c':Int) (hc':Bool) (d' i':Int) (dn' vv':Bool) (ve' rc':Int) (iv':Bool) :
  StEq Tryz.prog 52 [.i .i64 o,.i .i64 m,.s k,.s v,.i .u32 f,.i .i64 e,.b he,.i .u64 c,.b hc,.i .u64 d,.i .u64 i,.b dn,.b vv,.i .i64 ve,.i .i64 rc,.b iv] [.i .i64 o',.i .i64 m',.s k',.s v',.i .u32 f',.i .i64 e',.b he',.i .u64 c',.b hc',.i .u64 d',.i .u64 i',.b dn',.b vv',.i .i64 ve',.i .i64 rc',.b iv']:=
 stEq_cm ⟨o,m,k,v,f,e,he,c,hc,d,i,dn,vv,ve,rc,iv⟩ ⟨o',m',k',v',f',e',he',c',hc',d',i',dn',vv',ve',rc',iv'⟩
theorem same2_w {w:World} {a a':Option Addr} {m c c':Nat} {F:List (List UInt8)} (hr:RawT w a F) (hr':RawT w a' F) (hm:F.length=m) (hl:m≤9223372036854775807):Calls Tryz.prog 20 #[.slice a m c,.slice a' m c'] w fun e w'=>e=.returned (.bool true)∧Below w.heap.size w w':=by
 refine zA1 Tryz.func20 rfl kp20 (S:=Non) (ρ:=fun _=>zG7 0) (en:=[]) [.c (.v (.slice a m c)),.c (.v (.slice a' m c'))] Tryz.ntmps20 (At.nil _ _ _) (by simp [SV.wf,SC.wf]) (by simp) ?_
 intro C hC hP hk
 have hctr:zC1 C (fun _ _ _=>none):=by intro f en xs p v h; cases h
 (refine zA0 hctr (rs:=res20) true 200 _ _ _ ?_; simp (maxSteps:=1000000) only [VT,jg,qH,qI,qK,qN,qO,qR,qS,qe,ev,qy,qz,zI,zJ,zK,zM,↓reduceIte,reduceCtorEq,Nat.reduceEqDiff,Nat.reduceLT,zP,zQ,zR,zW,zt,hP,hk,res20,kp20,bne_self_eq_false])
 refine zD6 (ι:={ j:Nat // j≤m }) (fun j=>[(5,.c (.i .i64 (j.1:Int))),(0,.c (.v (.slice a m c))),(1,.c (.v (.slice a' m c')))]) (fun _=>[]) (fun j=>m+1 - j.1) ⟨0,Nat.zero_le _⟩ (zB3 ⟨rfl,rfl,rfl,trivial⟩) rfl ?_
 rintro ⟨j,hj⟩ D dP dS dw dn dr dk ddf dPan dRet hX hJ
 have hP0:=hP; have hk0:=hk; have hctr0:=hctr
 have hP:D.P=Tryz.prog:=by rw [dP]; exact hP0
 have hk:D.kp=kp20:=by rw [dk]; exact hk0
 have hctr:zC1 D (fun _ _ _=>none):=by intro f en xs p v h; cases h
 have hS':D.S=Non:=by rw [dS,hC]; rfl
 have hw':D.w0=w:=by rw [dw,hC]; rfl
 by_cases hjn:j < m
 ·obtain ⟨x,hx⟩:∃ x,F[j]?=some x:=⟨_,List.getElem?_eq_getElem (by omega)⟩
  obtain ⟨b,o,rfl,r1⟩:=hr.rd (D:=D) hS' hw' hx
  obtain ⟨b',o',rfl,r2⟩:=hr'.rd (D:=D) hS' hw' hx
  have c1:decide ((j:Int) < ((m:Nat):Int))=true:=decide_eq_true (by omega)
  have p3:IntKind.i64.wrap ((j:Int)+1)=((j+1:Nat):Int):=by rw [IntWalk.i64_in _ (by omega)]; rfl
  have p0:(0:Int)≤(j:Int):=by omega
  have p1:(j:Int) < ((m:Nat):Int):=by omega
  (refine zA0 hctr (rs:=res20) true 200 _ _ _ ?_; simp (maxSteps:=1000000) only [VT,jf,qH,qI,qK,qN,qO,qR,qS,qe,ev,qy,zI,zJ,zM,↓reduceIte,reduceCtorEq,Nat.reduceEqDiff,Nat.reduceLT,zP,zQ,zR,zV,zo,hP,hk,res20,kp20,p1])
  (refine zE5 hctr (by rw [hP]; rfl) rs20_6 [] (ensure_type_of% (Cmp.of (by simp (maxSteps := 1000000) only [qK, qO, qP, qR, qS, qX, ev, qy, zD, zM, ↓reduceIte, reduceCtorEq, Nat.reduceEqDiff, zT, zV, zh, cD, cO, jC, jD, jN, hP, p0, p1, r1, r2, Nat.mul_one, beq_self_eq_true]; rfl)) "" Cmp.mk) (by kernel_rfl) (by kernel_rfl) (by first | exact zC7 _ | kernel_rfl) (by kernel_rfl) (by rfl) (by rfl) (by first | exact zB2 _ | rfl) (by rfl) (by simp (maxSteps := 1000000) only [qK, qO, qP, qR, qS, qX, ev, qy, zD, zM, ↓reduceIte, reduceCtorEq, Nat.reduceEqDiff, zT, zV, zh, zn, zt, jD, jN, jP, jQ, jR, jS, jT, hP, p0, p1, r1, r2, Nat.mul_one, beq_self_eq_true]) ?_; refine zA0 hctr (rs := res20) true 300 _ _ _ ?_; simp (maxSteps := 1000000) only [VT, jg, qH, qI, qK, qO, qR, qS, ev, qy, qz, zG, zI, zJ, ↓reduceIte, reduceCtorEq, Nat.reduceEqDiff, Nat.reduceAdd, Nat.reduceLT, zP, zQ, zR, zW, zt, jN, jO, hk, res20, kp20, p3])
  exact hJ ⟨j+1,by omega⟩ _ (by show m+1 - (j+1) < m+1 - j; omega) (zB3 ⟨rfl,rfl,rfl,trivial⟩)
 ·have c1:decide ((j:Int) < ((m:Nat):Int))=false:=decide_eq_false (by omega)
  (refine zA0 hctr (rs:=res20) true 200 _ _ _ ?_; simp (maxSteps:=1000000) only [VT,jg,qH,qI,qK,qN,qO,qR,qS,qe,ev,qy,zH,zI,zJ,zM,↓reduceIte,reduceCtorEq,Nat.reduceEqDiff,Nat.reduceLT,zP,zQ,zR,zW,hP,hk,res20,kp20,c1])
  refine hX rfl rfl ?_
  have hP:=hP0; have hk:=hk0; have hctr:=hctr0
  (refine zA0 hctr (rs:=res20) true 200 _ _ _ ?_; simp (maxSteps:=1000000) only [VT,qE,qF,qG,qH,qI,qK,qO,ev,qy,qz,zI,zJ,TE.sv,↓reduceIte,reduceCtorEq,Nat.reduceEqDiff,Nat.reduceLT,zP,zR,hk,res20,kp20])
  exact zH3 (v:=.c (.b true)) hC hres20 rfl trivial
def rowSame2 (fa fa':Option Addr) (n fc fc':Nat):List SV→Option (Prop × SV)
 | [.c (.v x),.c (.v y)]=>some (x=.slice fa n fc∧y=.slice fa' n fc',.c (.b true))
 | _=>none
def saC (fa fa':Option Addr) (n fc fc':Nat):Ctr:=fun f _ xs=>match f with
 | 20=>rowSame2 fa fa' n fc fc' xs
 | _=>none
theorem saC_ok {C:Cx} {fa fa':Option Addr} {n fc fc':Nat} {F:List (List UInt8)} (hP:C.P=Tryz.prog) (hF:∀ w,Upd C.S C.w0 w→RawT w fa F∧RawT w fa' F) (hn:F.length=n) (hl:n≤9223372036854775807):zC1 C (saC fa fa' n fc fc'):=by
 intro f en xs p v h hp ρ w hup hHp hHo hinj hwf
 unfold saC at h
 split at h
 ·rw [hP]
  refine ⟨fun args w=>Tryz.call20 args w,?_⟩
  unfold rowSame2 at h
  split at h <;> simp only [Option.some.injEq,Prod.mk.injEq,reduceCtorEq] at h
  obtain ⟨rfl,rfl⟩:=h
  obtain ⟨rfl,rfl⟩:=hp
  exact ⟨trivial,same2_w (hF w hup).1 (hF w hup).2 hn hl⟩
 ·cases h
def RawC (w:World) (a:Option Addr) (cs:List Cd):Prop:=
 ∀ (k:Nat) c,cs[k]?=some c→∃ b o,a=some ⟨b,o,none⟩∧b < w.heap.size∧∀ (j:Nat) v,(ecA c).toList[j]?=some v→w.cell? ⟨b,o+k * 16+j,none⟩=some v
theorem rawC_of {ρ:Nat→RE} {en:List EN} {w:World} (hHp:Hp ρ (· < en.length) en w) (hHo:Ho ρ (· < en.length) en) {N:Nat} {cs:List Cd} (hN:zD en N=some (rwE 52 16 cs.length (zC2 ecS cs))) :
  ∃ a c,(SC.rw N cs.length).den ρ=.slice a cs.length c∧cs.length≤c∧RawC w a cs∧cs.length≤9223372036854775807:=by
 have lN:N < en.length:=by rw [zA3] at hN; exact (List.getElem?_eq_some_iff.1 hN).1
 obtain ⟨_,hL,hO⟩:=hHo N _ _ _ lN hN
 rcases hO with ⟨h1,h2,h3,h4,h5⟩ | ⟨h1,h2,h3⟩
 ·refine ⟨some ⟨(ρ N).blk,0,none⟩,(ρ N).cap,by simp only [SC.den]; rw [zI3 h1],h4,fun k c hc=>?_,by unfold maxLen at h5; omega⟩
  have key:∀ (j:Nat) v,(ecA c).toList[j]?=some v→w.cell? ⟨(ρ N).blk,0+k * 16+j,none⟩=some v:=by
   intro j v hv
   have hd:zB8 ρ (ecS c)=(ecA c).toList:=rfl
   have hj:j < 16:=by have:=(List.getElem?_eq_some_iff.1 hv).1; simpa [ecA] using this
   obtain ⟨y,hy⟩:∃ y,(ecS c)[j]?=some y:=⟨_,List.getElem?_eq_getElem (by rw [ecS_len]; exact hj)⟩
   have hyv:y.den ρ=v:=by
    rw [← hd] at hv
    simp only [zB8,List.getElem?_map,hy,Option.map_some,Option.some.injEq] at hv
    exact hv
   have hf:=flatG_nth (z:=16) ecS_len hc hj
   rw [zA3,hy] at hf
   have:=hHp.cellAt lN hN hf
   rw [h2,hyv] at this
   rw [← this]
   simp []
  refine ⟨_,_,rfl,?_,key⟩
  exact Go.block_lt_of_cell (a:=⟨(ρ N).blk,0+k * 16+0,none⟩) (key 0 _ rfl)
 ·refine ⟨none,0,by simp only [SC.den]; rw [zF1 h1],by omega,fun k c hc=>?_,by omega⟩
  have:=(List.getElem?_eq_some_iff.1 hc).1
  omega
theorem rawT_of {ρ:Nat→RE} {en:List EN} {w:World} (hHp:Hp ρ (· < en.length) en w) (hHo:Ho ρ (· < en.length) en) {M:Nat} {F:List (List UInt8)} (hN:zD en M=some (rwE 9 1 F.length (F.map SC.s))) :
  ∃ a c,(SC.rw M F.length).den ρ=.slice a F.length c∧RawT w a F∧F.length≤9223372036854775807:=by
 have lN:M < en.length:=by rw [zA3] at hN; exact (List.getElem?_eq_some_iff.1 hN).1
 obtain ⟨_,hL,hO⟩:=hHo M _ _ _ lN hN
 rcases hO with ⟨h1,h2,h3,h4,h5⟩ | ⟨h1,h2,h3⟩
 ·refine ⟨_,_,zI3 h1 _,fun j x hx=>?_,by unfold maxLen at h5; omega⟩
  have hf:(F.map SC.s)[j]?=some (.s x):=by rw [List.getElem?_map,hx]; rfl
  have:=hHp.cellAt lN hN hf
  rw [h2] at this
  have hcl:w.cell? ⟨(ρ M).blk,0+j,none⟩=some (.string ⟨x.toArray⟩):=this
  exact ⟨_,0,rfl,Go.block_lt_of_cell hcl,hcl⟩
 ·have h0:F=[]:=List.eq_nil_of_length_eq_zero h2
  subst h0
  exact ⟨_,_,zF1 h1 _,fun j x hx=>by simp at hx,by simp⟩
end Go.Proofs.YtcbmlanpianclaaGreatDoor
/- The document's read, walked. Printed by gen_edoc10.py. -/
namespace Go.Proofs.YtcbmlanpianclaaGreatDoor
set_option linter.unusedSimpArgs false
set_option linter.unusedVariables false
set_option maxHeartbeats 8000000
open Go.RowKit
set_option maxRecDepth 100000
def zC0:List SV→Option (Prop × SV)
 | [.c (.s l)]=>some (l.length≤9223372036854775806,.c (.b (zG3 l)))
 | _=>none
def rowDecD:List SV→Option (Prop × SV)
 | [.c (.s l)]=>some (l.length≤100000000,.t [.c (.s (refV l).1),.c (.b (refV l).2)])
 | _=>none
def rowOpD:List SV→Option (Prop × SV)
 | [.c (.s l)]=>some (True,.c (.i .i64 (opD l)))
 | _=>none
def dR0:Ctr:=fun f _ xs=>match f with
 | 71=>zC0 xs
 | 70=>rowDecD xs
 | 67=>rowOpD xs
 | 45=>zA9 xs
 | 66=>zA8 xs
 | _=>none
theorem dR0_ok {C:Cx} (hP:C.P=Tryz.prog):zC1 C dR0:=by
 intro f en xs p v h hp ρ w hup hHp hHo hinj hwf
 unfold dR0 at h
 split at h
 ·rw [hP]
  refine ⟨fun args w=>Tryz.call71 args w,?_⟩
  unfold zC0 at h
  split at h <;> simp only [Option.some.injEq,Prod.mk.injEq,reduceCtorEq] at h
  obtain ⟨rfl,rfl⟩:=h
  exact ⟨trivial,dkey_w _ hp w⟩
 ·rw [hP]
  refine ⟨fun args w=>Tryz.call70 args w,?_⟩
  unfold rowDecD at h
  split at h <;> simp only [Option.some.injEq,Prod.mk.injEq,reduceCtorEq] at h
  obtain ⟨rfl,rfl⟩:=h
  exact ⟨by simp [SV.wf,TE.wf,SC.wf],ddecode_w _ hp w⟩
 ·rw [hP]
  refine ⟨fun args w=>Tryz.call67 args w,?_⟩
  unfold rowOpD at h
  split at h <;> simp only [Option.some.injEq,Prod.mk.injEq,reduceCtorEq] at h
  obtain ⟨rfl,rfl⟩:=h
  exact ⟨trivial,dop_w _ w⟩
 ·rw [hP]
  refine ⟨fun args w=>Tryz.call45 args w,?_⟩
  unfold zA9 at h
  split at h <;> simp only [Option.some.injEq,Prod.mk.injEq,reduceCtorEq] at h
  obtain ⟨rfl,rfl⟩:=h
  exact ⟨by simp [SV.wf,wfs,SC.wf,mqS,noS],dbad_w _ w ρ⟩
 ·rw [hP]
  refine ⟨fun args w=>Tryz.call66 args w,?_⟩
  unfold zA8 at h
  split at h <;> simp only [Option.some.injEq,Prod.mk.injEq,reduceCtorEq] at h
  obtain ⟨rfl,rfl⟩:=h
  refine ⟨by simp [SV.wf,TE.wf,SC.wf],(rparse _ hp w).mono ?_⟩
  rintro e w' ⟨rfl,rfl⟩
  exact ⟨rfl,Below.refl _ _⟩
 ·cases h
theorem flags_h {C:Cx} {nE:Nat} {mk:Nat→Prop} {en en':List EN} {N:Nat} {c:Cd} {name:List UInt8} {ws:List (List UInt8)} {fl:SC} (hP:C.P=Tryz.prog) (hE:EnvC C) (h0:zD en N=some (enC c true)) (hN:N < nE) (hmk:∀ q,¬ mk q)
  (hl:∀ x∈ws,x ≠ []∧x.length≤1000000000) (hlen:ws.length≤1000000000)
  (H:∀ ρ pr w,Hw C ρ pr en w→fl.wf pr→pr N→∃ a cap,fl.den ρ=.slice a ws.length cap∧RawS w (ρ N).blk a ws)
  (hen:en'=zE en N (enC (allD (zF0 name).2 ws c []).1 true)):zJ0 C nE mk en en' 68 [.c (.s name),.c fl,.c (.p N 0)] (.c (.s (allD (zF0 name).2 ws c []).2)):=by
 subst hen
 refine ⟨fun args w=>by rw [hP]; exact Tryz.call68 args w,?_⟩
 intro ρ pr w hpr hmn hw hex hwf
 rw [hP]
 have hNp:=hpr N hN
 obtain ⟨k1,k2,k3,k4,k5⟩:=zO4 hw.hp hw.ho hNp h0 (by decide) (by simp [ecS])
 have hmu:=hw.mu N _ _ hNp h0
 have hpl:∀ c,pr c→c < en.length:=by
  intro q hq
  refine Decidable.byContradiction fun hd=>hex q hq ?_
  rw [zA3,List.getElem?_eq_none (by omega)]
 have hup:∀ w',Upd (One (ρ N).blk) w w'→Env w':=fun w' hu=>hE w' (hw.up.trans hu fun q hq (hs:q=(ρ N).blk)=>by
  rcases hmu with h | h
  ·rw [hs]; exact h
  ·omega)
 obtain ⟨a,cap,hfl,hraw⟩:=H ρ pr w hw (hwf (.c fl) (by simp)) hNp
 have hc:=dflags_w k1 name (cap:=cap) rfl hraw hl hlen (hE w hw.up) hup
 have hfl':(SV.c fl).den ρ=.slice a ws.length cap:=hfl
 simp only [List.map_cons,List.map_nil,hfl']
 simp only [SV.den,SC.den,k2]
 refine hc.mono ?_
 rintro e w' ⟨rfl,hU,hb⟩
 refine ⟨ρ,fun _ _=>rfl,rfl,trivial,?_,fun q hq=>absurd hq (hmk q)⟩
 have:=hw.turn hpl hNp h0 (by show ¬ (52:Nat)=zC9; decide) k5 hU (cells':=ecS (allD (zF0 name).2 ws c []).1) (by rw [k3,k4]; simpa [Blk,dens_ec] using hb) (by
  intro x hx
  simp only [ecS,List.mem_cons,List.not_mem_nil,or_false] at hx
  rcases hx with rfl | rfl | rfl | rfl | rfl | rfl | rfl | rfl | rfl | rfl | rfl | rfl | rfl | rfl | rfl | rfl <;> trivial)
 exact this.iff fun q=>⟨fun h=>h.resolve_right (hmk q),Or.inl⟩
def zW6 (F:List (List UInt8)) (en:List EN):List SV→Option (Prop × SV)
 | [.g xs,.c (.i .u8 x)]=>some (∃ (r:Mq) (cv:SC) (M:Nat),xs=mqS cv (.rw M F.length) r∧(cv=noS∨∃ N n m,cv=.sl N 0 n m)∧zD en M=some (rwE 9 1 F.length (F.map SC.s))∧F.length≤5000∧0≤x∧x < 256,.c (.b (anyF F (UInt8.ofNat x.toNat))))
 | _=>none
theorem rowFlagD_ok {F:List (List UInt8)} {ρ:Nat→RE} {en:List EN} {w:World} {xs:List SV} {p:Prop} {v:SV} (h:zW6 F en xs=some (p,v)) (hp:p) (hHp:Hp ρ (· < en.length) en w) (hHo:Ho ρ (· < en.length) en) :
  v.wf (· < en.length)∧Calls Tryz.prog 69 (xs.map (SV.den ρ)).toArray w fun e w'=>e=.returned (v.den ρ)∧Below w.heap.size w w':=by
 unfold zW6 at h
 split at h <;> simp only [Option.some.injEq,Prod.mk.injEq,reduceCtorEq] at h
 rename_i xs x
 obtain ⟨rfl,rfl⟩:=h
 obtain ⟨r,cv,M,rfl,hcv,hM,hl,x0,x1⟩:=hp
 obtain ⟨fa,fc,g1,F1,h4⟩:=rawT_of hHp hHo hM
 obtain ⟨ca,cn,cc,hca⟩:∃ ca cn cc,cv.den ρ=.slice ca cn cc:=by
  rcases hcv with rfl | ⟨N,n,m,rfl⟩
  ·exact ⟨_,_,_,rfl⟩
  ·exact ⟨_,_,_,rfl⟩
 refine ⟨trivial,?_⟩
 have hx:((UInt8.ofNat x.toNat).toNat:Int)=x:=by rw [UInt8.toNat_ofNat']; omega
 have:=dflagc_w (ca:=ca) (cn:=cn) (cc:=cc) (fa:=fa) (fn:=F.length) (fc:=fc) (r:={ r with flags:=F }) (w:=w) (UInt8.ofNat x.toNat) hl rfl F1
 have hargs:([SV.g (mqS cv (.rw M F.length) r),SV.c (.i .u8 x)].map (SV.den ρ)).toArray=#[(SV.g (mqS (.v (.slice ca cn cc)) (.v (.slice fa F.length fc)) { r with flags:=F })).den (fun _=>zG7 0),.int .u8 ((UInt8.ofNat x.toNat).toNat:Int)]:=by
  rw [hx]
  simp only [List.map_cons,List.map_nil,SV.den,mqS,zB8]
  rw [hca,g1]
  rfl
 rw [hargs]
 exact this
def dR1 (F:List (List UInt8)):Ctr:=fun f en xs=>match f with
 | 69=>zW6 F en xs
 | _=>dR0 f en xs
theorem dR1_ok {C:Cx} {F:List (List UInt8)} (hP:C.P=Tryz.prog):zC1 C (dR1 F):=by
 intro f en xs p v h hp ρ w hup hHp hHo hinj hwf
 unfold dR1 at h
 split at h
 ·rw [hP]
  exact ⟨fun args w=>Tryz.call69 args w,rowFlagD_ok h hp hHp hHo⟩
 ·exact dR0_ok hP f en xs p v h hp ρ w hup hHp hHo hinj hwf
theorem raw_words {D:Cx} {w:World} (hS:D.S=Non) (hw:D.w0=w) {b oo:Nat} {ws:List (List UInt8)} (hraw:RawT w (some ⟨b,oo,none⟩) ws) (j:Nat) (hj:j < ws.length):D.rd b (oo+j) (ws.length - j)=some ((ws.drop j).map SC.s):=by
 obtain ⟨b',o',e,hb,_⟩:=hraw j _ (List.getElem?_eq_getElem hj)
 cases e
 have hlen:((ws.drop j).map fun x=>Value.string ⟨x.toArray⟩).length=ws.length - j:=by simp
 have:=rd_arg (C:=D) (vs:=(ws.drop j).map fun x=>Value.string ⟨x.toArray⟩) (o:=oo+j) hS hw hb (fun k v hv=>by
  rw [List.getElem?_map,Option.map_eq_some_iff] at hv
  obtain ⟨x,hx,rfl⟩:=hv
  rw [List.getElem?_drop] at hx
  obtain ⟨b2,o2,e2,_,hc⟩:=hraw (j+k) x hx
  cases e2
  rw [Nat.add_assoc]; exact hc) hlen
 rw [this,List.map_map]; rfl
theorem raws_row {C:Cx} {ρ:Nat→RE} {pr:Nat→Prop} {en:List EN} {w:World} (hw:Hw C ρ pr en w) {M N:Nat} {F:List (List UInt8)} {c:Cd} {mu:Bool} (hM:zD en M=some (rwE 9 1 F.length (F.map SC.s))) (lM:pr M) (hN:zD en N=some (enC c mu)) (lN:pr N) (hMN:M ≠ N) :
  ∃ a cap,(SC.rw M F.length).den ρ=.slice a F.length cap∧RawS w (ρ N).blk a F:=by
 obtain ⟨_,hL,hO⟩:=hw.ho M _ _ _ lM hM
 rcases hO with ⟨h1,h2,h3,h4,h5⟩ | ⟨h1,h2,h3⟩
 ·refine ⟨_,_,zI3 h1 _,fun j x hx=>?_⟩
  have hf:(F.map SC.s)[j]?=some (.s x):=by rw [List.getElem?_map,hx]; rfl
  have:=hw.hp.cellAt lM hM hf
  rw [h2] at this
  have hcl:w.cell? ⟨(ρ M).blk,0+j,none⟩=some (.string ⟨x.toArray⟩):=this
  refine ⟨_,0,rfl,Go.block_lt_of_cell hcl,fun he=>?_,hcl⟩
  have hnl:(ρ N).nl=none:=Decidable.byContradiction fun hd=>by
   have:=(hw.hp N _ _ _ lN hN).non hd
   cases this
  exact hMN (hw.inj M N lM lN ((zA4 hM).2 ⟨by show ¬ ((9:Nat)=zC9); decide,h1⟩) ((zA4 hN).2 ⟨by show ¬ ((52:Nat)=zC9); decide,hnl⟩) he)
 ·have h0:F=[]:=List.eq_nil_of_length_eq_zero h2
  subst h0
  exact ⟨_,_,zF1 h1 _,fun j x hx=>by simp at hx⟩
def ReadD (w:World) (x:Mq × Int × Bool) (e:Ending) (w':World):Prop:=Below w.heap.size w w'∧∃ v,e=.returned (.tuple #[v,.int .i64 (if x.2.2 then -1 else x.2.1)])∧MqV w.heap.size w' v x.1
def rqZ:EN:=⟨(35,0,whole),mqS noS noS Mq.zero,true⟩
def slA (b oo n cap:Nat) (behind:List UInt8) (st:Bool):List (Nat × SV):=[(6,.c (.b st)),(5,.c (.i .i64 0)),(4,.c (.p 0 0)),(1,.c (.s behind)),(0,.c (.v (.slice (some ⟨b,oo,none⟩) n cap)))]
def slB (b oo n cap:Nat) (behind:List UInt8) (st:Bool) (v sk:Nat):List (Nat × SV):=[(9,.c (.i .i64 (sk:Int))),(8,.c (.i .u64 (v:Int))),(7,.c (.p 1 0)),(6,.c (.b st)),(5,.c (.i .i64 0)),(4,.c (.p 0 0)),(1,.c (.s behind)),(0,.c (.v (.slice (some ⟨b,oo,none⟩) n cap)))]
def rqF (b o m cp:Nat) (name word:List UInt8):EN:=⟨(35,0,whole),mqS noS (.v (.slice (some ⟨b,o,none⟩) m cp)) ⟨1,[],false,[],0,false,name,[],word⟩,true⟩
def rqG (m:Nat) (name word:List UInt8):EN:=⟨(35,0,whole),mqS noS (.rw 3 m) ⟨1,[],false,[],0,false,name,[],word⟩,true⟩
def ddE:EN:=⟨(zC9,0,rowP 1 0 0),[],false⟩
def fwE (l:List (List UInt8)):EN:=rwE 9 1 l.length (l.map SC.s)
def slC (b oo n cap:Nat) (behind:List UInt8) (st:Bool) (v sk:Nat):List (Nat × SV):=[(11,.c (.p 4 0)),(9,.c (.i .i64 (sk:Int))),(8,.c (.i .u64 (v:Int))),(7,.c (.p 1 0)),(6,.c (.b st)),(5,.c (.i .i64 0)),(4,.c (.p 0 0)),(1,.c (.s behind)),(0,.c (.v (.slice (some ⟨b,oo,none⟩) n cap)))]
def slE (b oo n cap:Nat) (behind:List UInt8) (st:Bool) (v sk:Nat) (ok:Bool):List (Nat × SV):=[(13,.c (.b ok)),(12,.c (.s [])),(11,.c (.p 4 0)),(9,.c (.i .i64 (sk:Int))),(8,.c (.i .u64 (v:Int))),(7,.c (.p 1 0)),(6,.c (.b st)),(5,.c (.i .i64 0)),(4,.c (.p 0 0)),(1,.c (.s behind)),(0,.c (.v (.slice (some ⟨b,oo,none⟩) n cap)))]
def slG (v sk:Nat) (behind:List UInt8):List (Nat × SV):=[(11,.c (.p 4 0)),(9,.c (.i .i64 (sk:Int))),(8,.c (.i .u64 (v:Int))),(7,.c (.p 1 0)),(4,.c (.p 0 0)),(1,.c (.s behind))]
theorem refV_le (s:List UInt8):(refV s).1.length≤s.length:=by
 have h1:=dec_le s
 rw [← refDec_is] at h1
 unfold refV
 cases h:zQ8 s with
 | none=>exact Nat.zero_le _
 | some t=>rw [h] at h1; exact h1
theorem dread_w {w:World} (hE0:Env w) {a:Option Addr} {n cap:Nat} {name:List UInt8} {rest:List (List UInt8)} (hraw:RawT w a (name :: rest)) (hn:n=rest.length+1) (hnc:n≤cap) (hcap:cap≤maxLen) (hl:∀ x∈name :: rest,x ≠ []∧x.length≤5000) (hlen:n≤5000) (hkind:(zF0 name).2 ≠ []) (behind:List UInt8) (hb:behind.length≤9223372036854775806) :
  Calls Tryz.prog 46 #[.slice a n cap,.string ⟨behind.toArray⟩] w (ReadD w (readM name rest behind)):=by
 obtain ⟨b,oo,rfl,hw0,hc0⟩:=hraw 0 name rfl
 refine zA1 Tryz.func46 rfl kp46 (S:=Non) (ρ:=fun _=>zG7 0) (en:=[]) [.c (.v (.slice (some ⟨b,oo,none⟩) n cap)),.c (.s behind)] Tryz.ntmps46 (At.nil _ _ _) (by simp [SV.wf,SC.wf]) (by simp) ?_
 intro C hC hP hk
 have hctr:=dR0_ok hP
 have hEC:EnvC C:=fun w' hu=>by rw [hC] at hu; exact hE0.below hu.to_below
 have hS:C.S=Non:=by rw [hC]; rfl
 have hw:C.w0=w:=by rw [hC]; rfl
 have hn0:C.n0=0:=by rw [hC]; rfl
 have bad:∀ l en,readM name rest behind=(zD8 l 0,0,false)→Fin C res46 (.t [.g (mqS noS noS (zD8 l 0)),.c (.i .i64 0)]) en:=fun l en h=>by
  refine zC3 (v:=.t [.g (mqS noS noS (zD8 l 0)),.c (.i .i64 0)]) hC hres46 fun ρ w' hw _ _=>?_
  have hup:=hw.up
  rw [hC] at hup
  rw [h]
  exact ⟨hup.to_below,_,rfl,MqV.none rfl rfl⟩
 have bad3:∀ (r:Mq) (k:Int) (en:List EN),readM name rest behind=(r,k,false)→r.cmds=[]→r.flags=[]→Fin C res46 (.t [.g (mqS noS noS r),.c (.i .i64 k)]) en:=fun r k en h h1 h2=>by
  refine zC3 (v:=.t [.g (mqS noS noS r),.c (.i .i64 k)]) hC hres46 fun ρ w' hw _ _=>?_
  have hup:=hw.up
  rw [hC] at hup
  rw [h]
  exact ⟨hup.to_below,_,rfl,MqV.none h1 h2⟩
 have r0:C.rd b oo 1=some [.s name]:=by
  obtain ⟨b',o',e,hr⟩:=hraw.rd (D:=C) hS hw (k:=0) rfl
  cases e; exact hr
 have z0:(0:Int) < (n:Int):=by omega
 have hctr0:=hctr
 obtain ⟨st,hst⟩:∃ st,(name == [109,115])=st:=⟨_,rfl⟩
 have hms:st=true ↔ name=m_ms:=by rw [← hst]; exact beq_iff_eq
 (refine zA0 hctr (rs:=res46) true 14 _ _ _ ?_; simp (maxSteps:=1000000) only [VT,qH,qI,qK,qO,qP,qR,qS,qX,ev,qy,qz,zF,zG,zI,zJ,zK,zM,↓reduceIte,reduceCtorEq,Nat.reduceEqDiff,Nat.reduceLT,zP,zQ,zR,zS,zt,zu,hP,hk,kp46,Int.toNat_zero,Nat.mul_one,r0,z0,hst])
 refine ⟨Int.le_refl _,?_⟩
 refine zL1 (κ:={ p:List UInt8 × List (List UInt8) // rest=p.1 :: p.2∧(st=true→p.2 ≠ []) }) (fun _=>slA b oo n cap behind st) (fun _=>[rqZ]) ?_ ?_
 rotate_left
 ·intro htail
  cases rest with
  | nil =>
   have c2:decide ((n:Int) < 2)=true:=decide_eq_true (by simp at hn; omega)
   cases st
   all_goals
    (refine zA0 hctr (rs:=res46) true 300 _ _ _ ?_; simp (maxSteps:=1000000) only [VT,jf,aA,qE,qF,qG,qH,qI,qJ,qK,qN,qO,qP,qR,qS,qe,qp,q0t,qu,qv,ev,qw,qy,qz,zA,zB,zC,zD,zE,zG,zI,zJ,zM,↓reduceIte,reduceCtorEq,Value.oneCell',Nat.reduceEqDiff,Nat.reduceAdd,Nat.reduceLT,zP,zQ,zR,zV,zt,hP,hk,res46,kp46,dR0,zA9,mqS,noS,zD8,Nat.reduceAdd,c2])
    exact bad zA2 _ rfl
  | cons word l0 =>
   have c2:decide ((n:Int) < 2)=false:=decide_eq_false (by simp only [List.length_cons] at hn; omega)
   cases st with
   | false =>
    (refine zA0 hctr (rs:=res46) true 16 _ _ _ ?_; simp (maxSteps:=1000000) only [VT,jg,jZ,aA,qH,qI,qK,qN,qO,qR,qS,qe,qp,ev,qy,qz,zD,zI,zJ,zM,↓reduceIte,reduceCtorEq,Nat.reduceEqDiff,Nat.reduceLT,zP,zQ,zR,zW,hP,hk,res46,kp46,c2])
    exact htail ⟨(word,l0),rfl,fun h=>by cases h⟩ _ (zB3 ⟨rfl,rfl,rfl,rfl,rfl,trivial⟩)
   | true =>
    by_cases hl0:l0=[]
    ·subst hl0
     have c3:decide ((n:Int) < 3)=true:=decide_eq_true (by simp at hn; omega)
     (refine zA0 hctr (rs:=res46) true 300 _ _ _ ?_; simp (maxSteps:=1000000) only [VT,jf,jg,jZ,qE,qF,qG,qH,qI,qJ,qK,qN,qO,qP,qR,qS,qe,qp,q0t,qu,qv,ev,qw,qy,qz,zA,zB,zC,zD,zE,zG,zI,zJ,zM,↓reduceIte,reduceCtorEq,Value.oneCell',Nat.reduceEqDiff,Nat.reduceAdd,Nat.reduceLT,zP,zQ,zR,zV,zW,zt,hP,hk,res46,kp46,dR0,zA9,mqS,noS,zD8,Nat.reduceAdd,c2,c3])
     exact bad zA2 _ (by simp only [readM,hms.1 rfl,if_true])
    ·have hlp:0 < l0.length:=List.length_pos_iff.2 hl0
     have c3:decide ((n:Int) < 3)=false:=decide_eq_false (by simp only [List.length_cons] at hn; omega)
     (refine zA0 hctr (rs:=res46) true 16 _ _ _ ?_; simp (maxSteps:=1000000) only [VT,jf,jg,jZ,qH,qI,qK,qN,qO,qR,qS,qe,qp,ev,qy,qz,zD,zI,zJ,zM,↓reduceIte,reduceCtorEq,Nat.reduceEqDiff,Nat.reduceLT,zP,zQ,zR,zV,zW,hP,hk,res46,kp46,c2,c3])
     exact htail ⟨(word,l0),rfl,fun _=>hl0⟩ _ (zB3 ⟨rfl,rfl,rfl,rfl,rfl,trivial⟩)
 rintro ⟨⟨word,l0⟩,hrest,hst2⟩
 simp only at hrest hst2
 subst hrest
 show Run C _ 149 (slA b oo n cap behind st) [rqZ]
 have hn2:n=l0.length+2:=by simp at hn; omega
 have r1:C.rd b (oo+1) 1=some [.s word]:=by
  obtain ⟨b',o',e,hr⟩:=hraw.rd (D:=C) hS hw (k:=1) rfl
  cases e; exact hr
 have z1:(0:Int)≤1:=by decide
 have z2:(1:Int) < (n:Int):=by omega
 have z3:(0:Int)≤2:=by decide
 have z4:(2:Int)≤(n:Int):=by omega
 have z5:(n:Int)≤(cap:Int):=by omega
 have z6:(0:Int)≤0:=by decide
 obtain ⟨o2,ho2⟩:∃ o2,(if cap=2 then oo else oo+2)=o2:=⟨_,rfl⟩
 (refine zA0 hctr (rs:=res46) true 300 _ _ _ ?_; simp (maxSteps:=1000000) only [VT,mqS,noS,slA,rqZ])
 (refine zE5 hctr (by rw [hP]; rfl) rs46_4 [] (ensure_type_of% (Cmp.of (by simp (maxSteps := 1000000) only [qK, qO, qP, qX, qZ, qf, qg, ql, qm, q0t, qu, qv, ev, qy, qz, zC, zD, zE, zF, zG, zM, ↓reduceIte, reduceCtorEq, Value.oneCell', Nat.reduceEqDiff, Nat.reduceAdd, zP, zT, zh, zt, zu, cD, cO, jC, jD, jF, jG, jH, jJ, jN, hP, Int.toNat_zero, Int.toNat_one, Nat.mul_one, Int.reduceToNat, Nat.reduceAdd, r0, r1, z0, z1, z2, z3, z4, z5, z6, ho2]; rfl)) "" Cmp.mk) (by kernel_rfl) (by kernel_rfl) (by first | exact zC7 _ | kernel_rfl) (by kernel_rfl) (by rfl) (by rfl) (by first | exact zB2 _ | rfl) (by rfl) (by simp (maxSteps := 1000000) only [qK, qO, qP, qX, qZ, qf, qg, ql, qm, q0t, qu, qv, ev, qy, qz, zC, zD, zE, zG, zM, ↓reduceIte, reduceCtorEq, Value.oneCell', Nat.reduceEqDiff, Nat.reduceAdd, zP, zT, zh, zm, zn, zq, zt, zu, jD, jF, jG, jH, jN, jP, jQ, jR, jS, jT, hP, Int.toNat_zero, Int.toNat_one, Nat.mul_one, Int.reduceToNat, Nat.reduceAdd, r0, r1, z0, z1, z2, z3, z4, z5, z6, ho2]) ?_; refine zA0 hctr (rs := res46) true 13 _ _ _ ?_; simp (maxSteps := 1000000) only [VT, qH, qI, qK, qO, ev, qy, qz, zG, zI, zJ, ↓reduceIte, reduceCtorEq, Nat.reduceEqDiff, Nat.reduceAdd, Nat.reduceLT, zP, zQ, zR, zt, jN, jO, hk, kp46, Nat.reduceAdd])
 have hl2:∀ x∈l0,x ≠ []∧x.length≤5000:=fun x hx=>hl x (by simp [hx])
 refine zL1 (κ:={ y:Nat × Nat × Nat × Nat × List (List UInt8) // y.2.2.2.2.length=y.2.2.1∧y.2.2.1≤5000∧(y.2.2.2.2 ≠ []→C.rd b y.2.1 y.2.2.1=some (y.2.2.2.2.map SC.s))∧(∀ x∈y.2.2.2.2,x ≠ []∧x.length≤5000)∧readM name (word :: l0) behind=zO8 name word y.2.2.2.2 (if st then y.1+2 else 0) behind∧y.1≤1073741824∧(st=false→y.1=0) }) (fun y=>slB b oo n cap behind st y.1.1 (if st then y.1.1+2 else 0)) (fun y=>[rqZ,rqF b y.1.2.1 y.1.2.2.1 y.1.2.2.2.1 name word]) ?_ ?_
 rotate_left
 ·intro htail
  cases st with
  | false =>
   (refine zA0 hctr (rs:=res46) true 2 _ _ _ ?_; simp (maxSteps:=1000000) only [VT,jg,ev,qy,↓reduceIte,zW,res46])
   refine htail ⟨(0,o2,n - 2,cap - 2,l0),by simp only; omega,by simp only; omega,fun h=>?_,hl2,?_,Nat.zero_le _,fun _=>rfl⟩ _ (zB3 ⟨rfl,rfl,rfl,rfl,rfl,rfl,rfl,rfl,trivial⟩)
   ·have hlp:0 < l0.length:=List.length_pos_iff.2 h
    have:=raw_words hS hw hraw 2 (by simp only [List.length_cons]; omega)
    rw [show (name :: word :: l0).length - 2=n - 2 by simp only [List.length_cons]; omega,show oo+2=o2 by rw [← ho2,if_neg (by omega)]] at this
    exact this
   ·simp only [readM,if_neg (fun h=>by have:=hms.2 h; cases this),Bool.false_eq_true,if_false]
  | true =>
   obtain ⟨z,l1,hl01⟩:∃ z l1,l0=z :: l1:=by
    cases l0 with
    | nil=>exact absurd rfl (hst2 rfl)
    | cons z l1=>exact ⟨z,l1,rfl⟩
   subst hl01
   have hn3:n=l1.length+3:=by simp at hn2; omega
   have r2:C.rd b (oo+2) 1=some [.s z]:=by
    obtain ⟨b',o',e,hr⟩:=hraw.rd (D:=C) hS hw (k:=2) rfl
    cases e; exact hr
   have z7:(2:Int) < (n:Int):=by omega
   have z8:(0:Int)≤3:=by decide
   have z9:(3:Int)≤(n:Int):=by omega
   have hnm:name=m_ms:=hms.1 rfl
   have hzl:=(hl z (by simp)).2
   obtain ⟨o3,ho3⟩:∃ o3,(if cap=3 then oo else oo+3)=o3:=⟨_,rfl⟩
   cases hp:zB0 z with
   | none =>
    (refine zA0 hctr (rs:=res46) true 300 _ _ _ ?_; simp (maxSteps:=1000000) only [VT,jf,aA,qE,qF,qG,qH,qI,qJ,qK,qO,qP,qT,qX,qh,qp,q0t,qu,qv,ev,qw,qy,qz,zA,zB,zC,zD,zE,zG,zI,zJ,TE.sv,zM,↓reduceIte,reduceCtorEq,Value.oneCell',Nat.reduceEqDiff,Nat.reduceAdd,Nat.reduceLT,zP,zQ,zR,zT,zV,zW,zt,hP,hk,res46,kp46,dR0,zA9,zA8,mqS,noS,zD8,Nat.mul_one,Int.reduceToNat,Nat.reduceAdd,z3,r2,z7,hp,Option.getD_none,Option.isSome_none])
    exact ⟨by omega,bad zA2 _ (by simp [readM,hnm,zT8,hp])⟩
   | some v =>
    by_cases hv:1073741824 < (v:Int)
    ·have v1:decide ((1073741824:Int) < (v:Int))=true:=decide_eq_true hv
     (refine zA0 hctr (rs:=res46) true 300 _ _ _ ?_; simp (maxSteps:=1000000) only [VT,jf,jg,jZ,qE,qF,qG,qH,qI,qJ,qK,qO,qP,qR,qS,qT,qX,qh,qp,q0t,qu,qv,ev,qw,qy,qz,zA,zB,zC,zD,zE,zG,zI,zJ,TE.sv,zM,↓reduceIte,reduceCtorEq,Value.oneCell',Nat.reduceEqDiff,Nat.reduceAdd,Nat.reduceLT,zP,zQ,zR,zT,zV,zW,zt,hP,hk,res46,kp46,dR0,zA9,zA8,mqS,noS,zD8,Nat.mul_one,Int.reduceToNat,Nat.reduceAdd,z3,r2,z7,hp,v1,Option.getD_some,Option.isSome_some])
     exact ⟨by omega,bad zA2 _ (by simp [readM,hnm,zT8,hp]; omega)⟩
    ·have v1:decide ((1073741824:Int) < (v:Int))=false:=decide_eq_false hv
     have v2:IntKind.i64.wrap (v:Int)=(v:Int):=IntWalk.i64_in _ (by omega)
     have v3:IntKind.i64.wrap ((v:Int)+2)=((v+2:Nat):Int):=by rw [IntWalk.i64_in _ (by omega)]; rfl
     (refine zA0 hctr (rs:=res46) true 42 _ _ _ ?_; simp (maxSteps:=1000000) only [VT,jf,jg,jZ,qH,qI,qJ,qK,qO,qP,qR,qS,qT,qU,qV,qX,qZ,qh,ql,qm,qp,q0t,qv,ev,qw,qy,qz,zC,zD,zE,zG,zI,zJ,TE.sv,zM,↓reduceIte,reduceCtorEq,Value.oneCell',Nat.reduceEqDiff,Nat.reduceLT,zP,zQ,zR,zT,zV,zW,zh,zt,hP,hk,res46,kp46,dR0,zA8,Nat.mul_one,Int.reduceToNat,z3,z5,r2,z7,z8,z9,hp,v1,v2,v3,ho3,Option.getD_some,Option.isSome_some])
     refine ⟨by omega,?_⟩
     refine htail ⟨(v,o3,n - 3,cap - 3,l1),by simp only; omega,by simp only; omega,fun h=>?_,fun x hx=>hl2 x (by simp [hx]),?_,by simp only; omega,fun h=>by cases h⟩ _ (zB3 ⟨rfl,rfl,rfl,rfl,rfl,rfl,rfl,rfl,trivial⟩)
     ·have hlp:0 < l1.length:=List.length_pos_iff.2 h
      have:=raw_words hS hw hraw 3 (by simp only [List.length_cons]; omega)
      rw [show (name :: word :: z :: l1).length - 3=n - 3 by simp only [List.length_cons]; omega,show oo+3=o3 by rw [← ho3,if_neg (by omega)]] at this
      exact this
     ·have h9:decide ((v:Int)≤1073741824)=true:=decide_eq_true (by omega)
      simp [readM,hnm,zT8,hp]
      omega
 rintro ⟨⟨v,oJ,m,cp,l⟩,hlm,hm5,hrd,hll,hrm,hv,hv0⟩
 simp only at hlm hm5 hrd hll hrm hv hv0
 obtain ⟨sk,hsk⟩:∃ sk:Nat,(if st then v+2 else 0)=sk:=⟨_,rfl⟩
 have hrm:readM name (word :: l0) behind=zO8 name word l sk behind:=by rw [← hsk]; exact hrm
 show Run C _ 149 (slB b oo n cap behind st v (if st then v+2 else 0)) [rqZ,rqF b oJ m cp name word]
 rw [hsk]
 (refine zA0 hctr (rs:=res46) true 2 _ _ _ ?_; simp (maxSteps:=1000000) only [VT])
 obtain ⟨i0,hi',hz0,hz1,hz2⟩:=info_parts infoStr
 have hsrc:SrcOk C [rqZ,rqF b oJ m cp name word,rwE 9 1 0 []] (.v (.slice (some ⟨b,oJ,none⟩) m cp)) m (l.map SC.s):=by
  by_cases h0:l=[]
  ·subst h0
   exact fun ρ pr w hw hwf=>⟨_,_,rfl,fun j u h=>by simp [zB8] at h⟩
  ·exact src_raw (L:=m) (hrd h0)
 refine build0_op (z:=1) (by rw [hP]; exact Tryz.underlying33) (by rw [hP]; exact hi') (by show ¬ ((9:Nat)=zC9); decide) (by rw [hn0]; exact Nat.zero_le _) rfl (by simp) ?_
 (refine zA0 hctr (rs:=res46) true 300 _ _ _ ?_; simp (maxSteps:=1000000) only [VT,qH,qI,qK,qN,qP,qV,ev,qy,zD,zF,zG,zM,↓reduceIte,Nat.reduceEqDiff,Nat.reduceAdd,Nat.reduceLT,zR,zl,zt,rwE,jN,hP,mqS,noS,Nat.reduceAdd,slB,rqF])
 refine zH9 (X:=.rw 2 0) (Y:=.v (.slice (some ⟨b,oJ,none⟩) m cp)) (o:=some 2) (n:=0) (m:=m) (z:=1) (bts:=16) (cells:=[]) (news:=l.map SC.s) (e:=9) (by rw [hP]; exact Tryz.underlying33) (by rw [hP]; exact hi') hz0 hz1 hz2 rfl Nat.zero_lt_one (by show ¬ ((9:Nat)=zC9); decide) (.some rfl) rfl rfl hsrc (by rw [List.length_map,hlm,Nat.mul_one]) (ones_st l) (fun pr=>st_wf pr l) (by omega) (by omega) (by rw [hn0]; exact Nat.zero_le _) rfl (by simp) ?_
 (refine zA0 hctr (rs:=res46) true 20 _ _ _ ?_; simp (maxSteps:=1000000) only [VT,qH,qI,qJ,qK,qO,qP,qR,qS,qV,qX,qf,qg,q0t,qu,qv,ev,qw,qy,qz,zC,zD,zE,zF,zG,zI,zJ,zM,↓reduceIte,reduceCtorEq,Nat.reduceEqDiff,Nat.reduceAdd,Nat.reduceLT,zP,zQ,zR,zT,zt,zu,zM2,zH4,rwE,jN,hP,hk,kp46,dR0,rowOpD,Int.toNat_zero,Nat.mul_one,Nat.reduceAdd,r0,z0,z6])
 subst hlm
 obtain ⟨dl,hdl⟩:∃ dl:Int,dl=if opD name=3 then 1 else 0:=⟨_,rfl⟩
 refine zL1 (κ:=Unit) (fun _=>slC b oo n cap behind st v sk) (fun _=>[rqZ,rqG l.length name word,ddE,fwE l,enC { Cd.zero with op:=opD name,delta:=dl,recache:=-1 } true]) ?_ ?_
 rotate_left
 ·intro htail
  cases ho3:(opD name == 3) with
  | true =>
   rw [if_pos (by simpa using ho3)] at hdl
   subst hdl
   (refine zA0 hctr (rs:=res46) true 5 _ _ _ ?_; simp (maxSteps:=1000000) only [VT,jf,qH,qI,qJ,qK,qV,q0t,qv,ev,qy,qz,zC,zD,zE,zG,zI,zJ,zM,↓reduceIte,reduceCtorEq,Nat.reduceEqDiff,Nat.reduceLT,zP,zQ,zR,zV,zt,hP,hk,res46,kp46])
   exact htail () _ (zB3 ⟨rfl,rfl,rfl,rfl,rfl,rfl,rfl,rfl,rfl,trivial⟩)
  | false =>
   rw [if_neg (by simpa using ho3)] at hdl
   subst hdl
   (refine zA0 hctr (rs:=res46) true 2 _ _ _ ?_; simp (maxSteps:=1000000) only [VT,jg,ev,qy,↓reduceIte,zW,res46])
   exact htail () _ (zB3 ⟨rfl,rfl,rfl,rfl,rfl,rfl,rfl,rfl,rfl,trivial⟩)
 intro _
 subst hdl
 show Run C _ 149 (slC b oo n cap behind st v sk) [rqZ,rqG l.length name word,ddE,fwE l,enC (cmdD name) true]
 obtain ⟨c1,bt,hall⟩:∃ c1 bt,allD (zF0 name).2 l (cmdD name) []=(c1,bt):=⟨_,_,rfl⟩
 (refine zA0 hctr (rs:=res46) true 300 _ _ _ ?_; simp (maxSteps:=1000000) only [VT,slC])
 (refine zH2 hctr (by rw [hP]; rfl) rs46_18 [fun en => (.c (.s bt), zE en 4 (enC c1 true))] (ensure_type_of% (Cmp.of (by simp (maxSteps := 1000000) only [qA, qK, qO, qP, qV, qX, ev, qw, qy, qz, zD, zE, zF, zG, zM, ↓reduceIte, reduceCtorEq, Nat.reduceEqDiff, Nat.reduceAdd, zT, zt, zu, cE, jA, jC, jD, jK, jL, jM, jN, hP, dR0, mqS, noS, Int.toNat_zero, Nat.mul_one, Nat.reduceAdd, r0, z0, z6, rqG, enC, ecS]; rfl)) "" Cmp.mk) (by kernel_rfl) (by kernel_rfl) (by first | exact zC7 _ | kernel_rfl) (by kernel_rfl) (by rfl) (by rfl) (by first | exact zB2 _ | rfl) (by rfl) ?_ ?_; rotate_left; refine zA0 hctr (rs := res46) true 14 _ _ _ ?_; simp (maxSteps := 1000000) only [VT, qH, qI, qJ, qK, qO, qP, qR, qS, qV, qX, q0t, qv, ev, qy, qz, zC, zD, zE, zG, zI, zJ, zM, ↓reduceIte, reduceCtorEq, Nat.reduceEqDiff, Nat.reduceAdd, Nat.reduceLT, zP, zQ, zR, zT, zt, jN, jO, hP, hk, kp46, Int.toNat_one, Nat.mul_one, Nat.reduceAdd, r1, z1, z2]; rotate_left; simp (maxSteps := 1000000) only [qK, qO, qP, qV, qX, ev, qw, qy, qz, zD, zG, zM, ↓reduceIte, reduceCtorEq, Nat.reduceEqDiff, Nat.reduceAdd, Nat.reduceSub, zR, zS, zT, zn, zt, zu, jD, jN, jP, jQ, jR, jS, jT, jU, hP, Int.toNat_zero, Nat.mul_one, Nat.reduceAdd, r0, z0, z6])
 ·rw [← show (allD (zF0 name).2 l (cmdD name) []).2=bt by rw [hall]]
  exact flags_h (c:=cmdD name) (ws:=l) (N:=4) (en:=[rqZ,rqG l.length name word,ddE,fwE l,enC (cmdD name) true]) hP hEC rfl (by decide) (fun q hq=>by simp [mkC] at hq) (fun x hx=>⟨(hll x hx).1,by have:=(hll x hx).2; omega⟩) (by omega)
   (fun ρ pr w hw hwf hN=>raws_row hw rfl hwf rfl hN (by decide)) (by rw [hall]; rfl)
 have hdoc:=rest_is (name:=name) (word:=word) hkind (fun x hx=>(hll x hx).1) st v hv0 behind
 have hrm2:readM name (word :: l0) behind=zO8 name word l (if st then v+2 else 0) behind:=hrm
 rw [← hrm2] at hdoc
 have hbd:badD name word l v=(let b1:=if bt=[] then (if (keyD word l).2=false∨zG3 (keyD word l).1=false then zA2 else []) else bt; if b1=[]∧65536 < v then zM3 else b1):=by unfold badD; rw [hall]
 have hrs:restD name word l st v behind=(if badD name word l v ≠ [] then (zD8 (badD name word l v) (sk:Int),(0:Int),false)
   else if behind.length < sk then (Mq.zero,0,true)
   else if st=true∧(behind.take sk).drop v ≠ [13,10] then (zD8 zO6 0,(sk:Int),false)
   else (⟨1,[{ c1 with key:=(keyD word l).1,val:=behind.take v }],anyF l 113,[],0,false,name,l,word⟩,(sk:Int),false)):=by
  unfold restD; simp only [hall]; rw [← hsk]
 rw [hrs] at hdoc
 obtain ⟨key,ok,hky⟩:∃ key ok,keyD word l=(key,ok):=⟨_,_,rfl⟩
 rw [hky] at hbd hdoc
 simp only at hbd hdoc
 by_cases hb0:bt=[]
 ·subst hb0
  rw [if_pos rfl] at hbd
  have w0:(([]:List UInt8) == [])=true:=rfl
  have hctr:zC1 C (dR1 l):=dR1_ok hP
  (refine zA0 hctr (rs:=res46) true 16 _ _ _ ?_; simp (maxSteps:=1000000) only [VT,jf,qH,qI,qK,qO,qP,ev,qw,qy,qz,zA,zB,zD,zI,zJ,zM,↓reduceIte,reduceCtorEq,Nat.reduceEqDiff,Nat.reduceLT,zP,zQ,zR,zV,rwE,hP,hk,res46,kp46,dR1,zW6,mqS,noS,Int.reduceToNat,w0])
  refine ⟨⟨⟨1,[],false,[],0,false,name,[],word⟩,noS,3,rfl,.inl rfl,rfl,by omega,by decide,by decide⟩,?_⟩
  refine zL1 (κ:=Unit) (fun _=>slE b oo n cap behind st v sk ok) (fun _=>[rqZ,rqG l.length name word,ddE,fwE l,enC { c1 with key:=key } true]) ?_ ?_
  rotate_left
  ·intro htail
   unfold keyD at hky
   cases hany:anyF l 98 with
   | true =>
    have hany2:anyF l (UInt8.ofNat 98)=true:=hany
    rw [hany,if_pos rfl] at hky
    have hk1:(refV word).1=key:=by rw [hky]
    have hk2:(refV word).2=ok:=by rw [hky]
    (refine zA0 hctr (rs:=res46) true 13 _ _ _ ?_; simp (maxSteps:=1000000) only [VT,jf,qH,qI,qJ,qK,qO,qP,qV,qX,qh,q0t,qv,ev,qw,qy,qz,zC,zD,zE,zG,zI,zJ,TE.sv,zM,↓reduceIte,reduceCtorEq,Nat.reduceEqDiff,Nat.reduceLT,zP,zQ,zR,zT,zV,zt,hP,hk,res46,kp46,dR1,dR0,rowDecD,Int.toNat_one,Nat.mul_one,hk1,hk2,r1,z1,z2])
    refine ⟨by have:=(hl word (by simp)).2; omega,htail () _ (zB3 ⟨rfl,rfl,rfl,rfl,rfl,rfl,rfl,rfl,rfl,rfl,rfl,trivial⟩)⟩
   | false =>
    have hany2:anyF l (UInt8.ofNat 98)=false:=hany
    rw [hany,if_neg (by simp)] at hky
    have hk1:word=key:=congrArg Prod.fst hky
    have hk2:true=ok:=congrArg Prod.snd hky
    subst hk1
    subst hk2
    (refine zA0 hctr (rs:=res46) true 2 _ _ _ ?_; simp (maxSteps:=1000000) only [VT,jg,ev,qy,↓reduceIte,zW,res46])
    exact htail () _ (zB3 ⟨rfl,rfl,rfl,rfl,rfl,rfl,rfl,rfl,rfl,rfl,rfl,trivial⟩)
  intro _
  have hctr:zC1 C (dR1 l):=dR1_ok hP
  have hkl:key.length≤9223372036854775806:=by
   have h1:=(hl word (by simp)).2
   have h2:key=(keyD word l).1:=by rw [hky]
   rw [h2]
   unfold keyD
   split
   ·have:=refV_le word; omega
   ·show word.length≤_; omega
  have w9:(zA2 == [])=false:=rfl
  show Run C _ 149 (slE b oo n cap behind st v sk ok) [rqZ,rqG l.length name word,ddE,fwE l,enC { c1 with key:=key } true]
  by_cases hbk:ok=false∨zG3 key=false
  ·rw [if_pos hbk,if_neg (fun h=>by have:=h.1; exact absurd this (by decide))] at hbd
   rw [hbd,if_pos (by decide)] at hdoc
   cases ok with
   | false =>
    (refine zA0 hctr (rs:=res46) true 300 _ _ _ ?_; simp (maxSteps:=1000000) only [VT,jf,jg,aA,qE,qF,qG,qH,qI,qJ,qK,qO,qP,qR,qS,qT,qV,qp,q0t,qu,qv,ev,qw,qy,qz,zA,zB,zC,zD,zE,zF,zG,zI,zJ,zM,↓reduceIte,reduceCtorEq,Value.oneCell',Nat.reduceEqDiff,Nat.reduceAdd,Nat.reduceLT,zP,zQ,zR,zV,zW,zt,hP,hk,res46,kp46,dR1,dR0,zC0,zA9,mqS,noS,zD8,Nat.reduceAdd,slE,rqG,rqZ,Mq.zero,enC,ecS,hkl,lb2])
    exact bad3 (zD8 zA2 sk) 0 _ hdoc.symm rfl rfl
   | true =>
    have hkb:zG3 key=false:=hbk.resolve_left (by simp)
    (refine zA0 hctr (rs:=res46) true 300 _ _ _ ?_; simp (maxSteps:=1000000) only [VT,jf,jg,jZ,aA,qE,qF,qG,qH,qI,qJ,qK,qO,qP,qR,qS,qT,qV,qp,q0t,qu,qv,ev,qw,qy,qz,zA,zB,zC,zD,zE,zF,zG,zI,zJ,zM,↓reduceIte,reduceCtorEq,Value.oneCell',Nat.reduceEqDiff,Nat.reduceAdd,Nat.reduceLT,zP,zQ,zR,zV,zW,zt,hP,hk,res46,kp46,dR1,dR0,zC0,zA9,mqS,noS,zD8,Nat.reduceAdd,slE,rqG,rqZ,Mq.zero,enC,ecS,hkl,hkb,lb2])
    exact bad3 (zD8 zA2 sk) 0 _ hdoc.symm rfl rfl
  ·have hok:ok=true:=by cases ok with | true=>rfl | false=>exact absurd (.inl rfl) hbk
   have hkb:zG3 key=true:=by cases h:zG3 key with | true=>rfl | false=>exact absurd (.inr h) hbk
   subst hok
   rw [if_neg hbk] at hbd
   by_cases hbig:65536 < v
   ·have c8:decide ((65536:Int) < (v:Int))=true:=decide_eq_true (by omega)
    rw [if_pos ⟨rfl,hbig⟩] at hbd
    rw [hbd,if_pos (by decide)] at hdoc
    (refine zA0 hctr (rs:=res46) true 300 _ _ _ ?_; simp (maxSteps:=1000000) only [VT,jf,jg,jZ,qE,qF,qG,qH,qI,qJ,qK,qO,qP,qR,qS,qT,qV,qp,q0t,qu,qv,ev,qw,qy,qz,zA,zB,zC,zD,zE,zF,zG,zI,zJ,zM,↓reduceIte,reduceCtorEq,Value.oneCell',Nat.reduceEqDiff,Nat.reduceAdd,Nat.reduceLT,zP,zQ,zR,zV,zW,zt,hP,hk,res46,kp46,dR1,dR0,zC0,zA9,mqS,noS,zD8,Nat.reduceAdd,slE,rqG,rqZ,Mq.zero,enC,ecS,hkl,hkb,c8,w0,lb2])
    exact bad3 (zD8 zM3 sk) 0 _ hdoc.symm rfl rfl
   ·have c8:decide ((65536:Int) < (v:Int))=false:=decide_eq_false (by omega)
    rw [if_neg (fun h=>hbig h.2)] at hbd
    rw [hbd,if_neg (by simp)] at hdoc
    by_cases hsh:behind.length < sk
    ·have c9:decide ((behind.length:Int) < (sk:Int))=true:=decide_eq_true (by omega)
     rw [if_pos hsh] at hdoc
     (refine zA0 hctr (rs:=res46) true 300 _ _ _ ?_; simp (maxSteps:=1000000) only [VT,jf,jg,jZ,qE,qF,qG,qH,qI,qJ,qK,qN,qO,qP,qR,qS,qT,qV,qe,qf,qg,qp,q0t,qu,qv,ev,qw,qy,qz,zA,zB,zC,zD,zE,zG,zI,zJ,zM,↓reduceIte,reduceCtorEq,Value.oneCell',Nat.reduceEqDiff,Nat.reduceAdd,Nat.reduceLT,zP,zQ,zR,zV,zW,zt,hP,hk,res46,kp46,dR1,dR0,zC0,mqS,noS,Nat.reduceAdd,slE,rqG,rqZ,Mq.zero,enC,ecS,hkl,hkb,c8,c9,w0])
     refine zC3 (v:=.t [.g (mqS noS noS Mq.zero),.c (.i .i64 (-1))]) hC hres46 fun ρ w' hw _ _=>?_
     have hup:=hw.up
     rw [hC] at hup
     rw [← hdoc]
     exact ⟨hup.to_below,_,rfl,MqV.none rfl rfl⟩
    ·have c9:decide ((behind.length:Int) < (sk:Int))=false:=decide_eq_false (by omega)
     rw [if_neg hsh] at hdoc
     (refine zA0 hctr (rs:=res46) true 49 _ _ _ ?_; simp (maxSteps:=1000000) only [VT,jf,jg,jZ,qH,qI,qK,qN,qO,qP,qR,qS,qT,qV,qe,qp,ev,qw,qy,qz,zD,zI,zJ,zM,↓reduceIte,reduceCtorEq,Nat.reduceEqDiff,Nat.reduceLT,zP,zQ,zR,zV,zW,zt,hP,hk,res46,kp46,dR1,dR0,zC0,mqS,noS,slE,rqG,rqZ,Mq.zero,enC,ecS,hkl,hkb,c8,c9,w0])
     have dv:(v:Int)≤(behind.length:Int):=by
      cases st with
      | false=>have:=hv0 rfl; omega
      | true=>rw [if_pos rfl] at hsk; omega
     have d3:(0:Int)≤(v:Int):=by omega
     refine zL1 (κ:={ _u:Unit // readM name (word :: l0) behind=(⟨1,[{ c1 with key:=key,val:=behind.take v }],anyF l 113,[],0,false,name,l,word⟩,(sk:Int),false) }) (fun _=>slG v sk behind) (fun _=>[rqZ,rqG l.length name word,ddE,fwE l,enC { c1 with key:=key } true]) ?_ ?_
     rotate_left
     ·intro htail
      cases st with
      | true =>
       have d1:(v:Int)≤(sk:Int):=by rw [if_pos rfl] at hsk; omega
       have d2:(sk:Int)≤(behind.length:Int):=by omega
       by_cases hch:(behind.take sk).drop v=[13,10]
       ·have hc1:((behind.take sk).drop v == [13,10])=true:=by rw [hch]; rfl
        rw [if_neg (fun h=>h.2 hch)] at hdoc
        (refine zA0 hctr (rs:=res46) true 13 _ _ _ ?_; simp (maxSteps:=1000000) only [VT,jf,jg,jZ,qH,qI,qK,qO,qR,qS,qZ,ql,qp,ev,qy,qz,zD,zI,zJ,zM,↓reduceIte,reduceCtorEq,Nat.reduceEqDiff,Nat.reduceLT,zP,zQ,zR,zT,zV,zW,zh,hP,hk,res46,kp46,d1,d2,d3,hc1])
        exact htail ⟨(),hdoc.symm⟩ _ (zB3 ⟨rfl,rfl,rfl,rfl,rfl,rfl,trivial⟩)
       ·have hc1:((behind.take sk).drop v == [13,10])=false:=by simpa using hch
        rw [if_pos ⟨rfl,hch⟩] at hdoc
        (refine zA0 hctr (rs:=res46) true 300 _ _ _ ?_; simp (maxSteps:=1000000) only [VT,jf,jZ,qE,qF,qG,qH,qI,qJ,qK,qO,qP,qR,qS,qZ,ql,qp,q0t,qu,qv,ev,qw,qy,qz,zA,zB,zC,zD,zE,zG,zI,zJ,zM,↓reduceIte,reduceCtorEq,Value.oneCell',Nat.reduceEqDiff,Nat.reduceAdd,Nat.reduceLT,zP,zQ,zR,zT,zV,zW,zh,zt,hP,hk,res46,kp46,dR1,dR0,zA9,mqS,noS,zD8,Nat.reduceAdd,d1,d2,d3,hc1])
        exact bad3 (zD8 zO6 0) sk _ hdoc.symm rfl rfl
      | false =>
       rw [if_neg (fun h=>by cases h.1)] at hdoc
       (refine zA0 hctr (rs:=res46) true 13 _ _ _ ?_; simp (maxSteps:=1000000) only [VT,jg,aA,qH,qI,qK,qO,qp,ev,qy,qz,zD,zI,zJ,↓reduceIte,reduceCtorEq,Nat.reduceEqDiff,Nat.reduceLT,zP,zQ,zR,zW,hP,hk,res46,kp46])
       exact htail ⟨(),hdoc.symm⟩ _ (zB3 ⟨rfl,rfl,rfl,rfl,rfl,rfl,trivial⟩)
     rintro ⟨_,hfin⟩
     have hctr:zC1 C (dR1 l):=dR1_ok hP
     show Run C _ 149 (slG v sk behind) [rqZ,rqG l.length name word,ddE,fwE l,enC { c1 with key:=key } true]
     (refine zA0 hctr (rs:=res46) true 300 _ _ _ ?_; simp (maxSteps:=1000000) only [VT,qA,qB,qC,qD,qE,qF,qG,qH,qI,qJ,qK,qO,qP,qV,qZ,qg,ql,q0t,qu,qv,ev,qw,qy,qz,zA,zB,zC,zD,zE,zF,zG,zI,zJ,zM,↓reduceIte,reduceCtorEq,Nat.reduceEqDiff,Nat.reduceAdd,Nat.reduceLT,Nat.reduceLeDiff,zP,zQ,zR,zT,zh,zk,zl,zt,rwE,hP,hk,res46,kp46,dR1,zW6,mqS,noS,Int.toNat_zero,Int.reduceToNat,Nat.reduceAdd,Nat.reduceMul,slG,rqG,rqZ,Mq.zero,enC,ecS,dv,d3,List.drop_zero,Int.le_refl])
     refine ⟨⟨⟨1,[],false,[],0,false,name,[],word⟩,.sl 5 0 1 1,3,rfl,.inr ⟨5,1,1,rfl⟩,rfl,by omega,by decide,by decide⟩,?_⟩
     obtain ⟨cc,hcc⟩:∃ cc:Cd,cc={ c1 with key:=key,val:=behind.take v }:=⟨_,rfl⟩
     have ecc:ecS cc=[.i .i64 c1.op,.i .i64 c1.mode,.s key,.s (behind.take v),.i .u32 c1.flags,.i .i64 c1.exp,.b c1.hasExp,.i .u64 c1.cas,.b c1.hasCas,.i .u64 c1.delta,.i .u64 c1.init,.b c1.down,.b c1.viv,.i .i64 c1.vive,.i .i64 c1.recache,.b c1.inval]:=by rw [hcc]; rfl
     rw [← hcc] at hfin
     refine zC3 (v:=.t [.g (mqS (.sl 5 0 1 1) (.rw 3 l.length) ⟨1,[cc],anyF l 113,[],0,false,name,l,word⟩),.c (.i .i64 (sk:Int))]) hC hres46 fun ρ w' hw _ _=>?_
     have hup:=hw.up
     rw [hC] at hup
     obtain ⟨k1,k2⟩:=RowOk.lit (N:=5) (n:=1) (z:=16) (e:=52) (cells:=ecS cc) hw hS (by rw [ecc]; rfl) (by decide) (by simp [ecS]) rfl (by unfold maxLen; decide)
     have k3:=RowOk.of (N:=3) (n:=l.length) (z:=1) (e:=9) (cells:=l.map SC.s) hw hS rfl (by decide)
     rw [‹C.w0=w›] at k1 k3
     rw [zF4] at k3
     rw [hfin]
     refine ⟨hup.to_below,_,rfl,⟨_,ρ 3,?_,k1,k3,fun _ h3 he=>?_⟩⟩
     ·show mqA ((SC.sl 5 0 1 1).den ρ) (zL3 (ρ 3) l.length) _=_
      rw [k2]; rfl
     ·have hnl:(ρ 5).nl=none:=Decidable.byContradiction fun hd=>by
       have:=(hw.hp 5 _ _ _ (by simp) rfl).non hd
       cases this
      have:=hw.inj 5 3 (by simp) (by simp) ((zA4 rfl).2 ⟨by show ¬ ((52:Nat)=zC9); decide,hnl⟩) ((zA4 rfl).2 ⟨by show ¬ ((9:Nat)=zC9); decide,h3⟩) he
      cases this
 ·have w1:(bt == [])=false:=by simpa using hb0
  have w2:(bt != [])=true:=by simpa using hb0
  rw [if_neg hb0,if_neg (fun h=>hb0 h.1)] at hbd
  rw [hbd,if_pos hb0] at hdoc
  (refine zA0 hctr (rs:=res46) true 300 _ _ _ ?_; simp (maxSteps:=1000000) only [VT,jf,jg,aA,qE,qF,qG,qH,qI,qJ,qK,qO,qP,qR,qS,qV,qp,q0t,qu,qv,ev,qw,qy,qz,zA,zB,zC,zD,zE,zF,zG,zI,zJ,zM,↓reduceIte,reduceCtorEq,Value.oneCell',Nat.reduceEqDiff,Nat.reduceAdd,Nat.reduceLT,zP,zQ,zR,zV,zW,zt,hP,hk,res46,kp46,dR0,zA9,mqS,noS,zD8,Nat.reduceAdd,w1,rqZ,Mq.zero])
  exact bad3 (zD8 bt sk) 0 _ hdoc.symm rfl rfl
end Go.Proofs.YtcbmlanpianclaaGreatDoor
/- The document's small functions of the text grammar, walked: mode, off, one. Printed by gen_dt1.py. -/
namespace Go.Proofs.YtcbmlanpianclaaGreatDoor
set_option linter.unusedSimpArgs false
set_option linter.unusedVariables false
set_option maxHeartbeats 8000000
open Go.RowKit
set_option maxRecDepth 100000
def stN (name:List UInt8):Prop:=name=[115,101,116]∨name=[99,97,115]∨name=[97,100,100]∨name=[114,101,112,108,97,99,101]∨name=[97,112,112,101,110,100]∨name=[112,114,101,112,101,110,100]
theorem dmodeT_w (name:List UInt8) (hn:stN name) (w:World):Calls Tryz.prog 74 #[.string ⟨name.toArray⟩] w fun e w'=>e=.returned (.int .i64 (zY8 name))∧Below w.heap.size w w':=by
 refine zA1 Tryz.func74 rfl kp74 (S:=Non) (ρ:=fun _=>zG7 0) (en:=[]) [.c (.s name)] Tryz.ntmps74 (At.nil _ _ _) (by simp [SV.wf,SC.wf]) (by simp) ?_
 intro C hC hP hk
 have hctr:zC1 C (fun _ _ _=>none):=dN_ok
 have fin:∀ (m:Int) en,zY8 name=m→Fin C res74 (.c (.i .i64 m)) en:=fun m en h=>by subst h; exact zH3 (v:=.c (.i .i64 (zY8 name))) hC hres74 rfl trivial
 rcases hn with rfl | rfl | rfl | rfl | rfl | rfl
 ·(refine zA0 hctr (rs:=res74) true 300 _ _ _ ?_; simp (maxSteps:=1000000) only [VT,jf,qE,qF,qG,qH,qI,qK,qO,qR,qS,ev,qy,qz,zI,zJ,TE.sv,zK,↓reduceIte,reduceCtorEq,Nat.reduceEqDiff,Nat.reduceLT,Nat.reduceBEq,zP,zQ,zR,zV,zx,hk,res74,kp74,lb1,lb4,u8b,UInt8.reduceToNat])
  exact fin _ _ (by decide)
 ·(refine zA0 hctr (rs:=res74) true 300 _ _ _ ?_; simp (maxSteps:=1000000) only [VT,jf,jg,qE,qF,qG,qH,qI,qK,qO,qR,qS,ev,qy,qz,zI,zJ,TE.sv,zK,↓reduceIte,reduceCtorEq,Nat.reduceEqDiff,Nat.reduceLT,Nat.reduceBEq,zP,zQ,zR,zV,zW,zw,zx,hk,res74,kp74,lb1,lb4,u8b,UInt8.reduceToNat])
  exact fin _ _ (by decide)
 ·(refine zA0 hctr (rs:=res74) true 300 _ _ _ ?_; simp (maxSteps:=1000000) only [VT,jf,jg,qE,qF,qG,qH,qI,qK,qO,qR,qS,ev,qy,qz,zI,zJ,TE.sv,zK,↓reduceIte,reduceCtorEq,Nat.reduceEqDiff,Nat.reduceLT,Nat.reduceBEq,zP,zQ,zR,zV,zW,zw,zx,hk,res74,kp74,lb1,lb4,u8b,UInt8.reduceToNat])
  exact fin _ _ (by decide)
 ·(refine zA0 hctr (rs:=res74) true 300 _ _ _ ?_; simp (maxSteps:=1000000) only [VT,jf,jg,qE,qF,qG,qH,qI,qK,qO,qR,qS,ev,qy,qz,zI,zJ,TE.sv,zK,↓reduceIte,reduceCtorEq,Nat.reduceEqDiff,Nat.reduceLT,Nat.reduceBEq,zP,zQ,zR,zV,zW,zw,zx,hk,res74,kp74,lb1,lb2,lb4,u8b,UInt8.reduceToNat])
  exact fin _ _ (by decide)
 ·(refine zA0 hctr (rs:=res74) true 300 _ _ _ ?_; simp (maxSteps:=1000000) only [VT,jf,jg,qE,qF,qG,qH,qI,qK,qO,qR,qS,ev,qy,qz,zI,zJ,TE.sv,zK,↓reduceIte,reduceCtorEq,Nat.reduceEqDiff,Nat.reduceLT,Nat.reduceBEq,zP,zQ,zR,zV,zW,zw,zx,hk,res74,kp74,lb1,lb2,lb3,lb4,u8b,UInt8.reduceToNat])
  exact fin _ _ (by decide)
 ·(refine zA0 hctr (rs:=res74) true 300 _ _ _ ?_; simp (maxSteps:=1000000) only [VT,jf,jg,qE,qF,qG,qH,qI,qK,qO,qR,qS,ev,qy,qz,zI,zJ,TE.sv,zK,↓reduceIte,reduceCtorEq,Nat.reduceEqDiff,Nat.reduceLT,Nat.reduceBEq,zP,zQ,zR,zV,zW,zw,zx,hk,res74,kp74,lb1,lb2,lb4,u8b,UInt8.reduceToNat])
  exact fin _ _ (by decide)
def offA (ws:List (List UInt8)):List (List UInt8) × Bool:=if 1 < ws.length∧ws.getLast?=some zI4 then (ws.dropLast,true) else (ws,false)
theorem zL4 (name:List UInt8) (l:List (List UInt8)):offA (name :: l)=(name :: (zN5 l).1,(zN5 l).2):=by
 unfold offA zN5
 cases h:l.getLast? with
 | none =>
  have:l=[]:=List.getLast?_eq_none_iff.1 h
  subst this
  rfl
 | some x =>
  have hne:l ≠ []:=fun e=>by subst e; cases h
  have hl:1 < (name :: l).length:=by have:=List.length_pos_iff.2 hne; simp only [List.length_cons]; omega
  have hg:(name :: l).getLast?=some x:=by
   rw [List.getLast?_cons,h]; rfl
  rw [hg]
  simp only [Option.some.injEq]
  by_cases hx:x=zI4
  ·rw [if_pos ⟨hl,hx⟩,if_pos hx,List.dropLast_cons_of_ne_nil hne]
  ·rw [if_neg (fun h=>hx h.2),if_neg hx]
theorem doff_w {ws:List (List UInt8)} {a:Option Addr} {n c:Nat} {w:World} (hraw:RawT w a ws) (hn:n=ws.length) (hnc:n≤c) (hcm:c≤maxLen):Calls Tryz.prog 73 #[.slice a n c] w fun e w'=>e=.returned (.tuple #[.slice a (offA ws).1.length c,.bool (offA ws).2])∧Below w.heap.size w w':=by
 refine zA1 Tryz.func73 rfl kp73 (S:=Non) (ρ:=fun _=>zG7 0) (en:=[]) [.c (.v (.slice a n c))] Tryz.ntmps73 (At.nil _ _ _) (by simp [SV.wf,SC.wf]) (by simp) ?_
 intro C hC hP hk
 have hctr:zC1 C (fun _ _ _=>none):=dN_ok
 have fin:∀ (m:Nat) b en,(offA ws).1.length=m→(offA ws).2=b→Fin C res73 (.t [.c (.v (.slice a m c)),.c (.b b)]) en:=fun m b en h1 h2=>by subst h1; subst h2; exact zH3 (v:=.t [.c (.v (.slice a (offA ws).1.length c)),.c (.b (offA ws).2)]) hC hres73 rfl (by simp [SV.wf,TE.wf,SC.wf])
 unfold maxLen at hcm
 by_cases h1:1 < n
 ·have c1:decide ((1:Int) < (n:Int))=true:=decide_eq_true (by omega)
  obtain ⟨x,hx⟩:∃ x,ws[n - 1]?=some x:=⟨_,List.getElem?_eq_getElem (by omega)⟩
  obtain ⟨b,oo,ha,r1⟩:=hraw.rd (D:=C) (by rw [hC]; rfl) (by rw [hC]; rfl) hx
  subst ha
  have p1:IntKind.i64.wrap ((n:Int) - 1)=((n - 1:Nat):Int):=by rw [IntWalk.i64_in _ (by omega)]; omega
  have p2:(0:Int)≤((n - 1:Nat):Int):=by omega
  have p3:((n - 1:Nat):Int) < (n:Int):=by omega
  have p4:((n - 1:Nat):Int)≤(c:Int):=by omega
  have hlast:ws.getLast?=some x:=by rw [List.getLast?_eq_getElem?,← hn]; exact hx
  by_cases hy:x=zI4
  ·have e0:(x == [110,111,114,101,112,108,121])=true:=by rw [hy]; rfl
   have hO:offA ws=(ws.dropLast,true):=by unfold offA; rw [if_pos ⟨by omega,by rw [hlast,hy]⟩]
   (refine zA0 hctr (rs:=res73) true 300 _ _ _ ?_; simp (maxSteps:=1000000) only [VT,jf,jZ,qE,qF,qG,qH,qI,qK,qN,qO,qP,qR,qS,qX,qZ,qe,ql,qp,ev,qy,qz,zD,zI,zJ,zK,zM,↓reduceIte,reduceCtorEq,Nat.reduceEqDiff,Nat.reduceLT,zP,zQ,zR,zT,zV,zh,zn,zu,hP,hk,res73,kp73,c1,p1,p2,p3,p4,r1,Int.toNat_zero,ite_self,Nat.mul_one,e0,Int.le_refl])
   exact fin (n - 1) true _ (by rw [hO]; simp only [List.length_dropLast]; omega) (by rw [hO])
  ·have e0:(x == [110,111,114,101,112,108,121])=false:=by rw [beq_eq_false_iff_ne]; exact hy
   have hO:offA ws=(ws,false):=by unfold offA; rw [if_neg (fun h=>hy (by have:=h.2; rw [hlast] at this; exact Option.some.inj this))]
   (refine zA0 hctr (rs:=res73) true 300 _ _ _ ?_; simp (maxSteps:=1000000) only [VT,jf,jg,jZ,qE,qF,qG,qH,qI,qK,qN,qO,qP,qR,qS,qX,qe,qp,ev,qy,qz,zD,zI,zJ,zK,zM,↓reduceIte,reduceCtorEq,Nat.reduceEqDiff,Nat.reduceLT,zP,zQ,zR,zT,zV,zW,zh,hP,hk,res73,kp73,c1,p1,p2,p3,r1,Nat.mul_one,e0])
   exact fin n false _ (by rw [hO]; exact hn.symm) (by rw [hO])
 ·have c1:decide ((1:Int) < (n:Int))=false:=decide_eq_false (by omega)
  have hO:offA ws=(ws,false):=by unfold offA; rw [if_neg (fun h=>h1 (by omega))]
  (refine zA0 hctr (rs:=res73) true 300 _ _ _ ?_; simp (maxSteps:=1000000) only [VT,jg,aA,qE,qF,qG,qH,qI,qK,qN,qO,qR,qS,qe,qp,ev,qy,qz,zD,zI,zJ,zK,zM,↓reduceIte,reduceCtorEq,Nat.reduceEqDiff,Nat.reduceLT,zP,zQ,zR,zW,hP,hk,res73,kp73,c1])
  exact fin n false _ (by rw [hO]; exact hn.symm) (by rw [hO])
theorem done_w (c:Cd) (q:Bool) (w:World):Calls Tryz.prog 75 #[(SV.g (ecS c)).den (fun _=>zG7 0),.bool q] w fun e w'=>(∃ r,RowOk w.heap.size w' r 52 16 1 (ecV [{ c with recache:=-1 }])∧e=.returned (gqA (zL3 r 1) (.slice none 0 0) (gqT (doR [c] q))))∧Below w.heap.size w w':=by
 refine zA1 Tryz.func75 rfl kp75 (S:=Non) (ρ:=fun _=>zG7 0) (en:=[]) [.g (ecS c),.c (.b q)] Tryz.ntmps75 (At.nil _ _ _) (by intro x hx; simp only [List.mem_cons,List.not_mem_nil,or_false] at hx; rcases hx with rfl | rfl; exact zM8 _ c; trivial) (by simp) ?_
 intro C hC hP hk
 have hctr:zC1 C (fun _ _ _=>none):=dN_ok
 have hS:C.S=Non:=by rw [hC]; rfl
 have hw0:C.w0=w:=by rw [hC]; rfl
 (refine zA0 hctr (rs:=res75) true 300 _ _ _ ?_; simp (maxSteps:=1000000) only [VT,qA,qB,qC,qD,qE,qF,qG,qH,qI,qJ,qK,qO,qP,qV,qf,qg,q0t,qu,qv,ev,qy,qz,zA,zB,zC,zD,zE,zF,zG,zI,zJ,TE.sv,zK,zM,↓reduceIte,reduceCtorEq,Value.oneCell',Nat.reduceEqDiff,Nat.reduceAdd,Nat.reduceLT,Nat.reduceLeDiff,zP,zQ,zR,zT,zk,zl,zt,hP,hk,res75,kp75,ecS,Nat.reduceMul])
 refine zC3 (v:=.g (gqS (.sl 2 0 1 1) noS (gqT (doR [c] q)))) hC hres75 fun ρ w' hw _ _=>?_
 have hup:=hw.up
 rw [hC] at hup
 obtain ⟨k1,k2⟩:=RowOk.lit (N:=2) (n:=1) (z:=16) (e:=52) (cells:=ecS { c with recache:=-1 }) hw hS rfl (by decide) (by simp [ecS]) rfl (by unfold maxLen; decide)
 rw [hw0] at k1
 refine ⟨⟨_,k1,?_⟩,hup.to_below⟩
 show Ending.returned (gqA ((SC.sl 2 0 1 1).den ρ) (.slice none 0 0) (gqT (doR [c] q)))=_
 rw [k2]
def onE (c:Cd):EN:=rwE 52 16 1 (zC2 ecS [{ c with recache:=-1 }])
theorem zL5 {pr:Nat→Prop} {cv fl:SC} {r:Gq} (h1:cv.wf pr) (h2:fl.wf pr):wfs pr (gqS cv fl r):=by
 intro z hz
 simp only [gqS,List.mem_cons,List.not_mem_nil,or_false] at hz
 rcases hz with rfl | rfl | rfl | rfl | rfl | rfl | rfl | rfl | rfl | rfl | rfl
 case inr.inl=>exact h1
 case inr.inr.inr.inr.inr.inr.inr.inr.inr.inl=>exact h2
 all_goals trivial
theorem one_h {C:Cx} {nE N:Nat} {mk:Nat→Prop} {en en':List EN} (c:Cd) (q:Bool) (hP:C.P=Tryz.prog) (hmk:∀ x,mk x ↔ x=N) (hn0:C.n0≤N) (hN:zD en' N=some (onE c)) (hq:∀ x,x ≠ N→zD en' x=zD en x) :
  zJ0 C nE mk en en' 75 [.g (ecS c),.c (.b q)] (.g (gqS (.rw N 1) noS (gqT (doR [c] q)))):=by
 refine zZ2 (vals:=ecV [{ c with recache:=-1 }]) (fun args w=>by rw [hP]; exact Tryz.call75 args w) hmk hn0 hN hq (by show ¬ (52:Nat)=zC9; decide) (fun ρ=>zE7 ρ _) (fun pr=>ec_wf pr _) (fun pr h=>zL5 h trivial) ?_
 intro ρ pr w hw _ _
 rw [hP]
 refine (done_w c q w).mono ?_
 rintro z w' ⟨⟨r,hr,rfl⟩,hb⟩
 refine ⟨r,hr.made (fun ρ=>zE7 ρ _),fun ρ' _ h=>?_,hb⟩
 show Ending.returned (gqA (zL3 r 1) (.slice none 0 0) (gqT (doR [c] q)))=Ending.returned (gqA (zL3 (ρ' N) 1) (.slice none 0 0) (gqT (doR [c] q)))
 rw [h]
theorem zS8 {C:Cx} {ρ:Nat→RE} {en:List EN} {w':World} {N:Nat} {c:Cd} {q:Bool} (hw:Hw C ρ (· < en.length) en w') (hS:C.S=Non) (hN:zD en N=some (onE c)):GqV C.w0.heap.size w' (gqA ((SC.rw N 1).den ρ) (.slice none 0 0) (gqT (doR [c] q))) (gqT (doR [c] q)):=by
 have k1:=RowOk.of (N:=N) (n:=1) (z:=16) (e:=52) (cells:=zC2 ecS [{ c with recache:=-1 }]) hw hS hN (by decide)
 rw [zE7] at k1
 exact ⟨ρ N,nilR _,rfl,k1,RowOk.nil _ _ _ _,fun _ h=>by cases h⟩
end Go.Proofs.YtcbmlanpianclaaGreatDoor
/- What a store's line comes to, case by case. No program in sight but the definitions of the walks. -/
namespace Go.Proofs.YtcbmlanpianclaaGreatDoor
set_option linter.unusedSimpArgs false
set_option linter.unusedVariables false
open Go.RowKit
def rdX:Rd'→Rq × Int
 | .fault f=>(zD9 f,0)
 | .got _ true _=>(Rq.zero,-1)
 | .got r false u=>(r,u)
theorem zP0 {w0 W:List (List UInt8)} {q:Bool} (h:zN5 w0=(W,q)):∀ (i:Nat) x,W[i]?=some x→w0[i]?=some x:=by
 unfold zN5 at h
 intro i x hx
 split at h
 ·split at h
  ·simp only [Prod.mk.injEq] at h
   obtain ⟨rfl,_⟩:=h
   rw [List.getElem?_dropLast] at hx
   split at hx
   ·exact hx
   ·cases hx
  ·simp only [Prod.mk.injEq] at h
   obtain ⟨rfl,_⟩:=h
   exact hx
 ·simp only [Prod.mk.injEq] at h
  obtain ⟨rfl,_⟩:=h
  exact hx
section
variable {name:List UInt8} {w0 W:List (List UInt8)} {q tok:Bool} {behind:List UInt8} {v:Nat}
def badS (W:List (List UInt8)) (tok:Bool):Bool:=!zG3 (W.getD 0 []) || (zB0 (W.getD 1 [])).isNone || decide (4294967295 < (zB0 (W.getD 1 [])).getD 0) || !((zI2 (W.getD 2 [])).2 && (bif tok then zB0 (W.getD 4 []) else some 0).isSome)
theorem st_len (h:zN5 w0=(W,q)) (ht:(name == [99,97,115])=tok) (hl:W.length ≠ (bif tok then 5 else 4)):rdX (zB4 name w0 behind)=(zD9 zA5,0):=by
 unfold zB4
 simp only [h,ht]
 rw [if_pos hl]
 rfl
theorem st_num (h:zN5 w0=(W,q)) (ht:(name == [99,97,115])=tok) (hl:W.length=(bif tok then 5 else 4)) (hp:zB0 (W.getD 3 [])=none):rdX (zB4 name w0 behind)=(zD9 zA2,0):=by
 unfold zB4
 simp only [h,ht]
 rw [if_neg (fun hd=>hd hl),hp]
 rfl
theorem st_num2 (h:zN5 w0=(W,q)) (ht:(name == [99,97,115])=tok) (hl:W.length=(bif tok then 5 else 4)) (hp:zB0 (W.getD 3 [])=some v) (hv:1073741824 < v):rdX (zB4 name w0 behind)=(zD9 zA2,0):=by
 unfold zB4
 simp only [h,ht]
 rw [if_neg (fun hd=>hd hl),hp]
 simp only [if_pos hv]
 rfl
theorem zV9 (h:zN5 w0=(W,q)) (ht:(name == [99,97,115])=tok) (hl:W.length=(bif tok then 5 else 4)) (hp:zB0 (W.getD 3 [])=some v) (hv:¬ 1073741824 < v) (hb:badS W tok=true):rdX (zB4 name w0 behind)=({ zD9 zA2 with skip:=((v+2:Nat):Int) },0):=by
 unfold zB4
 simp only [h,ht]
 rw [if_neg (fun hd=>hd hl),hp]
 simp only [if_neg hv]
 unfold badS at hb
 rw [if_pos hb]
 rfl
theorem st_ok (h:zN5 w0=(W,q)) (ht:(name == [99,97,115])=tok) (hl:W.length=(bif tok then 5 else 4)) (hp:zB0 (W.getD 3 [])=some v) (hv:¬ 1073741824 < v) (hb:badS W tok=false):zB4 name w0 behind =
   if 65536 < v then .got { zD9 zM3 with skip:=((v+2:Nat):Int) } false 0
   else if behind.length < v+2 then .got Rq.zero true 0
   else if (behind.take (v+2)).drop v=[13,10] then .got (doR [{ Cd.zero with op:=2,mode:=zY8 name,key:=W.getD 0 [],val:=behind.take v,flags:=(zB0 (W.getD 1 [])).getD 0,exp:=(zI2 (W.getD 2 [])).1,hasCas:=tok,cas:=(bif tok then zB0 (W.getD 4 []) else some 0).getD 0 }] q) false ((v+2:Nat):Int)
   else .got (zD9 zO6) false ((v+2:Nat):Int):=by
 unfold zB4
 simp only [h,ht]
 rw [if_neg (fun hd=>hd hl),hp]
 simp only [if_neg hv]
 unfold badS at hb
 rw [if_neg (by rw [hb]; simp)]
end
end Go.Proofs.YtcbmlanpianclaaGreatDoor
/- The contracts of the document's text grammar. Printed by gen_dt2.py. -/
namespace Go.Proofs.YtcbmlanpianclaaGreatDoor
set_option linter.unusedSimpArgs false
set_option linter.unusedVariables false
open Go.RowKit
set_option maxRecDepth 100000
def zB9 (a:Option Addr) (n c m:Nat) (q:Bool):List SV→Option (Prop × SV)
 | [.c (.v (.slice a' n' c'))]=>some (a'=a∧n'=n∧c'=c,.t [.c (.v (.slice a m c)),.c (.b q)])
 | _=>none
def zT5:List SV→Option (Prop × SV)
 | [.c (.s l)]=>some (stN l,.c (.i .i64 (zY8 l)))
 | _=>none
def dT0 (a:Option Addr) (n c m:Nat) (q:Bool):Ctr:=fun f _ xs=>match f with
 | 71=>zC0 xs
 | 45=>zA9 xs
 | 66=>zA8 xs
 | 72=>zC4 xs
 | 74=>zT5 xs
 | 73=>zB9 a n c m q xs
 | _=>none
theorem zM9 {C:Cx} {w:World} {ws L:List (List UInt8)} {a:Option Addr} {n c m:Nat} {q:Bool} (hP:C.P=Tryz.prog) (hS:C.S=Non) (hw:C.w0=w) (hraw:RawT w a ws) (hn:n=ws.length) (hnc:n≤c) (hcm:c≤maxLen) (hO:offA ws=(L,q)) (hm:L.length=m):zC1 C (dT0 a n c m q):=by
 intro f en xs p v h hp ρ w' hup hHp hHo hinj hwf
 unfold dT0 at h
 split at h
 ·rw [hP]
  refine ⟨fun args w=>Tryz.call71 args w,?_⟩
  unfold zC0 at h
  split at h <;> simp only [Option.some.injEq,Prod.mk.injEq,reduceCtorEq] at h
  obtain ⟨rfl,rfl⟩:=h
  exact ⟨trivial,dkey_w _ hp w'⟩
 ·rw [hP]
  refine ⟨fun args w=>Tryz.call45 args w,?_⟩
  unfold zA9 at h
  split at h <;> simp only [Option.some.injEq,Prod.mk.injEq,reduceCtorEq] at h
  obtain ⟨rfl,rfl⟩:=h
  exact ⟨by simp [SV.wf,wfs,SC.wf,mqS,noS],dbad_w _ w' ρ⟩
 ·rw [hP]
  refine ⟨fun args w=>Tryz.call66 args w,?_⟩
  unfold zA8 at h
  split at h <;> simp only [Option.some.injEq,Prod.mk.injEq,reduceCtorEq] at h
  obtain ⟨rfl,rfl⟩:=h
  refine ⟨by simp [SV.wf,TE.wf,SC.wf],(rparse _ hp w').mono ?_⟩
  rintro e w'' ⟨rfl,rfl⟩
  exact ⟨rfl,Below.refl _ _⟩
 ·rw [hP]
  refine ⟨fun args w=>Tryz.call72 args w,?_⟩
  unfold zC4 at h
  split at h <;> simp only [Option.some.injEq,Prod.mk.injEq,reduceCtorEq] at h
  obtain ⟨rfl,rfl⟩:=h
  exact ⟨by simp [SV.wf,TE.wf,SC.wf],dsecs_w _ hp w'⟩
 ·rw [hP]
  refine ⟨fun args w=>Tryz.call74 args w,?_⟩
  unfold zT5 at h
  split at h <;> simp only [Option.some.injEq,Prod.mk.injEq,reduceCtorEq] at h
  obtain ⟨rfl,rfl⟩:=h
  exact ⟨trivial,dmodeT_w _ hp w'⟩
 ·rw [hP]
  refine ⟨fun args w=>Tryz.call73 args w,?_⟩
  unfold zB9 at h
  split at h <;> simp only [Option.some.injEq,Prod.mk.injEq,reduceCtorEq] at h
  obtain ⟨rfl,rfl⟩:=h
  obtain ⟨rfl,rfl,rfl⟩:=hp
  have:=doff_w (hraw.upd (by rw [← hS,← hw]; exact hup)) hn hnc hcm
  rw [hO,hm] at this
  exact ⟨by simp [SV.wf,TE.wf,SC.wf],this⟩
 ·cases h
end Go.Proofs.YtcbmlanpianclaaGreatDoor
