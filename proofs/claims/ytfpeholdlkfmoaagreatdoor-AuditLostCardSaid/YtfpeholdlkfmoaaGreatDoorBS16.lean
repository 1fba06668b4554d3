/- A drawn region with look-ups in a map among its quiet operations: SxDrawn's proofs with one case more. Printed by gen_audrawx.py. No program in sight. -/
import Derived.Test.YtfpeholdlkfmoaaGreatDoorBS15
import Derived.Test.YtfpeholdlkfmoaaGreatDoorBS03
import Derived.Test.YtfpeholdlkfmoaaGreatDoorBS11
import Derived.Test.YtfpeholdlkfmoaaGreatDoorBS13
import Derived.Test.YtfpeholdlkfmoaaGreatDoorBS04
namespace Go.Proofs.YtfpeholdlkfmoaaGreatDoor
set_option linter.unusedSimpArgs false
set_option linter.unusedVariables false
open Go.RowKit Go.Instr Go.ChangeMaps
abbrev Sp:=List (Nat × SV)→Op→Option (Prop × SV)
def SpOk (C:Cx) (sp:Sp):Prop:=∀ sl op p v,sp sl op=some (p,v)→p→∀ (ρ:Nat→RE) (pr:Nat→Prop) w (rv:Operand→Value) (o:Oper),o.op=op→Upd C.S C.w0 w→(∀ x u,opT op x→ev sl x=some u→rv x=u.den ρ∧u.wf pr)→(execOp rv o).run C.P w=.ok (.value (v.den ρ)) w∧v.wf pr
def spL (T:TypeId) (b:Nat) (f:Int→Option (Int × Int)):Sp:=fun sl op=>match op with
 | .lookup t m x true=>match ev sl m,ev sl x with
  | some (.c (.v (.map (some b')))),some (.c (.i .i64 c))=>some (t=T∧b'=b,.t [.g [.i .i64 ((f c).getD (0,0)).1,.i .i64 ((f c).getD (0,0)).2],.c (.b (f c).isSome)])
  | _,_=>none
 | _=>none
theorem spL_ok {C:Cx} {T:TypeId} {b:Nat} {f:Int→Option (Int × Int)} (hlk:∀ w,Upd C.S C.w0 w→MapAt w b f) (hT:lkT C.P T):SpOk C (spL T b f):=by
 intro sl op p v hu hp ρ pr w rv o hop hup hev
 unfold spL at hu
 split at hu
 ·rename_i t mm xx
  split at hu
  ·rename_i b' c hm hx
   simp only [Option.some.injEq,Prod.mk.injEq] at hu
   obtain ⟨rfl,rfl⟩:=hu
   obtain ⟨rfl,rfl⟩:=hp
   obtain ⟨kt,et,t1,t2,t3⟩:=hT
   obtain ⟨m1,_⟩:=hev mm _ (by simp [opT,Op.operands]) hm
   obtain ⟨x1,_⟩:=hev xx _ (by simp [opT,Op.operands]) hx
   have m1':rv mm=.map (some b'):=m1
   have x1':rv xx=.int .i64 c:=x1
   have hlook:=(hlk w hup).look t1 t2 (t3 w) c
   refine ⟨?_,?_⟩
   ·simp [execOp,hop,m1',x1',hlook]
    rfl
   intro y hy
   simp only [List.mem_cons,List.not_mem_nil,or_false] at hy
   rcases hy with rfl | rfl
   ·intro z hz
    simp only [List.mem_cons,List.not_mem_nil,or_false] at hz
    rcases hz with rfl | rfl <;> trivial
   ·trivial
  ·cases hu
 ·cases hu
def spA (T:TypeId) (n es:Nat):Sp:=fun sl op=>match op with
 | .indexAddr t x y=>match ev sl x,ev sl y with
  | some (.c (.p c o)),some (.c (.i _ j))=>some (t=T∧0≤j∧j < (n:Int),.c (.p c (o+j.toNat * es)))
  | _,_=>none
 | _=>none
theorem spA_ok {C:Cx} {T e:TypeId} {n es:Nat} {i:TypeInfo} (ht:C.P.underlying T=some (.array n e)) (hi:C.P.info? e=some i) (hs:i.size=es):SpOk C (spA T n es):=by
 intro sl op p v hu hp ρ pr w rv o hop hup hev
 unfold spA at hu
 split at hu
 ·rename_i t x y
  split at hu
  ·rename_i c oo kd j hx hy
   simp only [Option.some.injEq,Prod.mk.injEq] at hu
   obtain ⟨rfl,rfl⟩:=hu
   obtain ⟨rfl,h0,h1⟩:=hp
   obtain ⟨x1,x2⟩:=hev x _ (by simp [opT,Op.operands]) hx
   obtain ⟨y1,_⟩:=hev y _ (by simp [opT,Op.operands]) hy
   have x1':rv x=.pointer (some ⟨(ρ c).blk,(ρ c).pre.length+oo,none⟩):=x1
   have y1':rv y=.int kd j:=y1
   have hsz:(sizeOf e).run C.P w=.ok es w:=by rw [← hs]; exact zC6 hi
   refine ⟨?_,x2⟩
   simp [execOp,hop,x1',y1',Instr.indexAt,zC9 ht,Instr.sureAddr,asIntOf,h0,h1,hsz,SV.den,SC.den,zG5,zG0,Nat.add_assoc]
  ·cases hu
 ·cases hu
def ckXO (C:Cx) (ctr:Ctr) (sp:Sp) (nE:Nat) (all:List Oper) (lv:List (List EN)) (crs:List Cr) (i:Nat) (o:Oper) (v:SV) (lo hi:Nat) (sl:List (Nat × SV)):Kd→Prop
 | .soft=>jD all sl o.guard=some true∧match sp sl o.op with
  | some (p,u)=>p∧u=v
  | none=>jP (hi+1 - lo) lo fun l=>jQ lv l fun en=>jR C.P C.rd ctr nE en sl v o.op
 | k=>jT C ctr nE all lv crs i o v lo hi sl k
def ckX (C:Cx) (ctr:Ctr) (sp:Sp) (nE:Nat) (all:List Oper) (lv:List (List EN)) (crs:List Cr):Nat→List Oper→List Kd→List SV→List (Nat × Nat)→List (Nat × SV)→Prop
 | _,[],[],[],[],_=>True
 | i,o :: os,k :: ks,v :: vs,(lo,hi) :: rs,sl=>ckXO C ctr sp nE all lv crs i o v lo hi sl k∧ckX C ctr sp nE all lv crs (i+1) os ks vs rs (jN o.dst v sl)
 | _,_,_,_,_,_=>False
theorem ckX_get {C:Cx} {ctr:Ctr} {sp:Sp} {nE:Nat} {all:List Oper} {lv:List (List EN)} {crs:List Cr}:∀ {n:Nat} {os:List Oper} {ks:List Kd} {vs:List SV} {rs:List (Nat × Nat)} {sl:List (Nat × SV)},
  ckX C ctr sp nE all lv crs n os ks vs rs sl→∀ (i:Nat) (o:Oper),os[i]?=some o→∃ k v lo hi,ks[i]?=some k∧vs[i]?=some v∧rs[i]?=some (lo,hi)∧ckXO C ctr sp nE all lv crs (n+i) o v lo hi (jO os vs i sl) k
 | n,[],[],[],[],sl,h,i,o,ho=>by simp at ho
 | n,o' :: os,k :: ks,v :: vs,(lo,hi) :: rs,sl,h,0,o,ho=>by
  simp at ho; subst ho
  exact ⟨k,v,lo,hi,rfl,rfl,rfl,h.1⟩
 | n,o' :: os,k :: ks,v :: vs,(lo,hi) :: rs,sl,h,i+1,o,ho=>by
  obtain ⟨k',v',lo',hi',h1,h2,h3,h4⟩:=ckX_get h.2 i o (by simpa using ho)
  exact ⟨k',v',lo',hi',by simpa using h1,by simpa using h2,by simpa using h3,by rw [show n+(i+1)=n+1+i by omega]; exact h4⟩
def cX (P:Program) (rd:Rd) (ctr:Ctr) (sp:Sp) (nE:Nat) (all:List Oper):List Oper→Nat→List (Nat × SV)→List (List EN)→List Cr→Nat→List HF→Option DD
 | [],_,_,lv,crs,m,_=>some ⟨[],[],lv,crs,m⟩
 | ⟨dst,op,_,_,_,gd⟩ :: os,i,sl,lv,crs,m,hs=>match jD all sl gd with
  | some false=>jC .skip (.c .u) (cX P rd ctr sp nE all os (i+1) (jN dst (.c .u) sl) lv crs m hs)
  | some true=>match sp sl op with
   | some (_,v)=>jC .soft v (cX P rd ctr sp nE all os (i+1) (jN dst v sl) lv crs m hs)
   | none=>match zD lv m with
    | some en=>match jA P rd ctr nE i en lv crs m hs sl op with
     | some (k,v,lv',crs',m',hs')=>jC k v (cX P rd ctr sp nE all os (i+1) (jN dst v sl) lv' crs' m' hs')
     | none=>none
    | none=>none
  | none=>none
section
variable {C:Cx} {nE m nt:Nat} {ops:List Oper} {ks:List Kd} {vs:List SV} {rs:List (Nat × Nat)} {lv:List (List EN)} {crs:List Cr} {sl:List (Nat × SV)} {a0:Act}
variable {listed:Array Bool} {a:Act} {w:World} {k i:Nat} {ρ:Nat→RE} {o:Oper}
theorem draw_stepX {sp:Sp} {ctr:Ctr} (hctr:zE4 C ctr) {Q:Exit→Act→World→Prop} (E:EK ops ks rs m) (K:CK nE ks crs m) (hL:∀ e∈lv,e.length=nE+crs.length) (hn:∀ o∈ops,∀ d,o.dst=some d→d < nt) (hv:vs.length=ops.length) (hn0:C.n0≤nE)
  (hsp:SpOk C sp) (hD:ckX C ctr sp nE ops lv crs 0 ops ks vs rs sl) (hs:listed.size=ops.length) (h:IV C nE m nt ops ks vs rs lv crs sl a0 listed a w k ρ) (hi:i∈Region.ready .any ops.toArray listed) :
  wpOp C.P ops.toArray Q i (fun a' w'=>∃ k' ρ',IV C nE m nt ops ks vs rs lv crs sl a0 (listed.setIfInBounds i true) a' w' k' ρ') a w:=by
 obtain ⟨o,r⟩:=rdy_of hs hi
 obtain ⟨q,v,lo,hi',hk,hvi,hri,hck⟩:=ckX_get hD i o r.op
 rw [Nat.zero_add] at hck
 have hil:i < listed.size:=by rw [hs]; exact r.lt
 obtain ⟨e,he,hw⟩:=h.wd
 have hel:e.length=nE+crs.length:=hL e (by rw [zA5] at he; exact List.mem_of_getElem? he)
 have hne:∀ c,PR nE crs listed k c→zD e c ≠ none:=fun c hc=>nth_ne hel (PR_len hc)
 unfold wpOp
 rw [List.getElem?_toArray,r.op]
 simp only
 have hlo:=h.kLo E r
 have hup:=h.uppr i r.lt r.un
 cases q with
 | skip =>
  obtain ⟨hg,rfl⟩:=hck
  rw [h.wanted E r hv hg]
  simp only [Bool.false_eq_true,if_false]
  have hpr:=fun c=>PR_same (k:=k) (c:=c) K hil (fun c=>by rw [hk]; simp)
  exact ⟨k,ρ,h.next E r hs hv hn hvi (.inl ⟨by rw [hk]; rfl,rfl⟩) (fun _ _=>rfl) (.inr rfl) trivial he (hw.iff hpr)⟩
 | soft =>
  obtain ⟨hg,hal⟩:=hck
  rw [h.wanted E r hv hg]
  simp only [if_true]
  left
  have hpr:=fun c=>PR_same (k:=k) (c:=c) K hil (fun c=>by rw [hk]; simp)
  have hb:befN ks rs i=hi':=by unfold befN; rw [hk,List.getD_eq_getElem?_getD,hri]; rfl
  have hl:loN ks rs i=lo:=by unfold loN; rw [hk,List.getD_eq_getElem?_getD,hri]; rfl
  rw [hb] at hup
  rw [hl] at hlo
  by_cases hlkc:(sp (jO ops vs i sl) o.op).isSome=true
  ·obtain ⟨⟨p,u⟩,hu⟩:=Option.isSome_iff_exists.1 hlkc
   rw [hu] at hal
   obtain ⟨hp,rfl⟩:=hal
   obtain ⟨r1,r2⟩:=hsp _ _ p u hu hp ρ (PR nE crs listed k) w a.eval o rfl hw.up (fun x u hx hxu=>h.opnd E r hv x u hx hxu)
   exact zU5 r1 ⟨k,ρ,h.next E r hs hv hn hvi (.inl ⟨by rw [hk]; rfl,rfl⟩) (fun _ _=>rfl) (.inr rfl) (SV.wf_mono r2 (fun c hc=>(hpr c).2 hc)) he (hw.iff hpr)⟩
  have hlkn:sp (jO ops vs i sl) o.op=none:=by
   cases hx:sp (jO ops vs i sl) o.op with
   | none=>rfl
   | some x=>rw [hx] at hlkc; exact absurd rfl hlkc
  rw [hlkn] at hal
  simp only at hal
  obtain ⟨e',he',hsc⟩:=zL5 (zS0 hal k hlo (by omega))
  rw [he] at he'; cases he'
  have nx:∀ w',Hw C ρ (PR nE crs listed k) e w'→v.wf (PR nE crs listed k)→∃ k' ρ',IV C nE m nt ops ks vs rs lv crs sl a0 (listed.setIfInBounds i true) (a.put o.dst (v.den ρ)) w' k' ρ':=fun w' hw' hvw =>
   ⟨k,ρ,h.next E r hs hv hn hvi (.inl ⟨by rw [hk]; rfl,rfl⟩) (fun _ _=>rfl) (.inr rfl) (SV.wf_mono hvw (fun c hc=>(hpr c).2 hc)) he (hw'.iff hpr)⟩
  have soft:∀ op,o.op=op→(match qK C.P C.rd e (ev (jO ops vs i sl)) op with
    | some (p,u)=>p∧u=v
    | none=>False)→o.wp C.P a w (fun a' w'=>∃ k' ρ',IV C nE m nt ops ks vs rs lv crs sl a0 (listed.setIfInBounds i true) a' w' k' ρ') Q:=by
   intro op ho hss
   split at hss
   ·rename_i p u hu
    obtain ⟨hp,rfl⟩:=hss
    obtain ⟨r1,r2⟩:=softS_at (by rw [ho]; exact hu) hp (fun x u hx hxu=>h.opnd E r hv x u hx hxu) (rd_ok hw.up) hw.hp hw.ho
    exact zU5 r1 (nx w hw r2)
   ·exact hss.elim
  generalize hop:o.op=op at hsc
  unfold jR at hsc
  split at hsc
  ·rename_i f args tys
   split at hsc
   ·rename_i xs hxs
    split at hsc
    ·rename_i p u hu
     obtain ⟨hwe,hwv,hp,rfl⟩:=hsc
     obtain ⟨g1,_⟩:=h.opnds E r hv args.toList xs (fun x hx=>by rw [hop]; exact zU6 x hx) hxs
     have hfl:(jI nE e).length=nE:=by rw [zJ2,List.length_take]; omega
     have hfe:∀ c,c < nE→zD (jI nE e) c=zD e c:=fun c hc=>by rw [zA5,zA5,zJ2,List.getElem?_take,if_pos hc]
     obtain ⟨k1,k2,k3⟩:=hctr f _ xs p u hu hp ρ w hw.up (fun c ty cells mu hc hce=>by
      rw [hfl] at hc
      have hx:=hw.hp c ty cells mu (.inl hc) (by rw [← hfe c hc]; exact hce)
      refine ⟨hx.heap,?_,hx.dead,hx.non⟩
      rw [hfl]
      exact wfE_ok hwe ⟨ty,cells,mu⟩ (List.mem_of_getElem? (by rw [← zA5]; exact hce))) (fun c ty cells mu hc hce=>by
      rw [hfl] at hc
      exact hw.ho c ty cells mu (.inl hc) (by rw [← hfe c hc]; exact hce)) (fun c d hc hd hcl hdl=>by
      rw [hfl] at hc hd
      exact hw.inj c d (.inl hc) (.inl hd) (by rw [← hfe c hc]; exact hcl) (by rw [← hfe d hd]; exact hdl)) (fun x hx=>by rw [hfl]; exact wfV_ok hwv x hx)
     have hargs:args.map a.eval=(xs.map (SV.den ρ)).toArray:=by apply Array.toList_inj.1; simpa using g1
     unfold Oper.wp
     have hx':(execOp a.eval o).run C.P w=.ok (.enter f (xs.map (SV.den ρ)).toArray) w:=by
      simp [execOp,hop,resolve,Act.eval,Deferred.ofValue,invoke,hargs,k1]
     rw [hx']
     simp only [Oper.upon]
     refine k3.mono ?_
     rintro e' w' ⟨rfl,hb'⟩
     rw [hfl] at k2
     exact nx w' (hw.same hb') (SV.wf_mono k2 (fun c hc=>.inl hc))
    ·exact hsc.elim
   ·exact hsc.elim
  ·exact soft _ hop hsc
 | flt c =>
  obtain ⟨hg,hc,hcr,hnew⟩:=hck
  rw [zA5] at hcr
  rw [h.wanted E r hv hg]
  simp only [if_true]
  left
  have hpr:=fun d=>PR_flt (k:=k) (c:=d) K hil hk hc hcr
  have hb:befN ks rs i=hi':=by unfold befN; rw [hk,List.getD_eq_getElem?_getD,hri]; rfl
  have hl:loN ks rs i=lo:=by unfold loN; rw [hk,List.getD_eq_getElem?_getD,hri]; rfl
  rw [hb] at hup
  rw [hl] at hlo
  have hnp:¬ PR nE crs listed k c:=by
   rintro (h1 | ⟨h1,h2⟩)
   ·omega
   ·rw [hcr] at h2
    have h3:listed.getD i false=true:=h2
    rw [r.un] at h3
    cases h3
  have main:∀ t l q,v=jG c q→(execOp a.eval o).run C.P w=.ok (.value (match q with | none=>.pointer (some ⟨w.heap.size,0,none⟩) | some n=>.slice (some ⟨w.heap.size,0,none⟩) n n)) (w.alloc (.cells (zC1 ρ l).toArray t))→wfs (PR nE crs listed k) l→t ≠ zE8→zD e c=some ⟨(t,0,whole),l,true⟩ →
    o.wp C.P a w (fun a' w'=>∃ k' ρ',IV C nE m nt ops ks vs rs lv crs sl a0 (listed.setIfInBounds i true) a' w' k' ρ') Q:=by
   intro t l q hvq hrun hwl htd hce
   subst hvq
   unfold Oper.wp
   rw [hrun]
   simp only [Oper.upon]
   have hal:=hw.allocAt htd hnp (by omega) hce hwl
   refine ⟨k,_,h.next E r hs hv hn hvi (.inl ⟨by rw [hk]; rfl,rfl⟩) (fun d hd=>if_neg (by rintro rfl; exact hnp hd)) (.inr ?_) ?_ he (hal.iff hpr)⟩
   ·cases q <;> simp [jG,SV.den,SC.den,zG5]
   ·cases q <;> exact (hpr c).2 (.inr rfl)
  split at hnew
  ·rename_i t l q hnw
   obtain ⟨hvq,hnew⟩:=hnew
   obtain ⟨e',he',hce⟩:=zL5 (zS0 hnew k hlo (by omega))
   rw [he] at he'; cases he'
   generalize hop:o.op=op at hnw
   unfold jF at hnw
   split at hnw <;> try cases hnw
   ·rename_i t'
    split at hnw <;> simp only [Option.some.injEq,Prod.mk.injEq,reduceCtorEq] at hnw
    rename_i sz ag z fs el es kd ik ht
    obtain ⟨rfl,rfl,rfl⟩:=hnw
    obtain ⟨i',d',zv,fs',e',hi'',hu,hz,_,_,hti⟩:=zD2 ht
    simp only [TI.mk.injEq] at hti
    obtain ⟨_,_,rfl,_⟩:=hti
    refine main t' _ none hvq ?_ (zero_wf _ _) (ti_dead ht) hce
    rw [zero_den]
    simp [execOp,hop,Instr.alloc,zeroValue,typeInfo,hi'',hz,newVar,newRow,newObj,zO4]
   ·rename_i t' n' ps'
    split at hnw <;> simp only [Option.some.injEq,Prod.mk.injEq,reduceCtorEq] at hnw
    rename_i el l' hl'
    obtain ⟨rfl,rfl,rfl⟩:=hnw
    obtain ⟨b1,b2,b3⟩:=zT3 (w:=w) (rv:=a.eval) (ρ:=ρ) (pr:=PR nE crs listed k) hl' (fun x hx u hu=>h.opnd E r hv x.2 u (by
     rw [hop]
     simp only [opT,Op.operands,List.toList_toArray,List.mem_map]
     exact ⟨x,hx,rfl⟩) hu)
    refine main _ _ (some n') hvq ?_ b2 b1 hce
    have hps:(ps'.map fun x=>(x.1,a.eval x.2))=(ps'.toList.map fun x=>(x.1,a.eval x.2)).toArray:=by
     apply Array.toList_inj.1; simp
    simp [execOp,hop]
    rw [hps,b3]
    simp
   ·rename_i t' x
    split at hnw <;> try cases hnw
    rename_i v' hv'
    split at hnw <;> try cases hnw
    rename_i l' hl'
    split at hnw <;> simp only [Option.some.injEq,Prod.mk.injEq,reduceCtorEq] at hnw
    rename_i htd
    obtain ⟨rfl,rfl,rfl⟩:=hnw
    obtain ⟨e1,e2⟩:=h.opnd E r hv x v' (by rw [hop]; simp [opT,Op.operands]) hv'
    obtain ⟨c1,c2,c3⟩:=zO8 (ρ:=ρ) hl'
    refine main t' _ none hvq ?_ (c3 _ e2) htd hce
    simp [execOp,hop,Instr.box,newVar,newRow,newObj,zO4,e1,c1]
  ·exact hnew.elim
 | hst j =>
  obtain ⟨hg,hd,rfl,hst⟩:=hck
  rw [h.wanted E r hv hg]
  simp only [if_true]
  left
  have hjk:=h.kHard E r (by rw [hk]; rfl)
  subst hjk
  obtain ⟨e',he',hst⟩:=zL5 hst
  rw [he] at he'; cases he'
  have hpr:∀ c,PR nE crs (listed.setIfInBounds i true) (j+1) c ↔ PR nE crs listed j c:=fun c=>by
   rw [PR_hard K hil (fun c=>by rw [hk]; simp)]
   refine ⟨fun hh=>hh.resolve_right ?_,.inl⟩
   rintro ⟨_,h2⟩
   obtain ⟨_,i',hi'⟩:=K.ch _ _ h2
   have hil':i' < ops.length:=by rw [← E.len]; exact (List.getElem?_eq_some_iff.1 hi').1
   have:=(E.hn i j r.lt (by rw [hk]; rfl)).2 i' hil' (by rw [hi']; rfl)
   subst this
   rw [hk] at hi'; cases hi'
  split at hst
  ·rename_i en' hse
   generalize hop:o.op=op at hse
   unfold jH at hse
   split at hse <;> try cases hse
   rename_i t x y
   split at hse <;> try cases hse
   rename_i sz ag z fs el es kd ik c off v' ht hx hy
   split at hse <;> try cases hse
   rename_i ty cells hce
   split at hse <;> try cases hse
   rename_i vs' hvs
   split at hse <;> try cases hse
   rename_i hsz
   split at hse <;> simp only [Option.some.injEq,reduceCtorEq] at hse
   rename_i l hl
   subst hse
   obtain ⟨i',d',zv,fs',e',hi'',hu,hz,_,_,hti⟩:=zD2 ht
   simp only [TI.mk.injEq] at hti
   obtain ⟨rfl,_⟩:=hti
   obtain ⟨e1,e2⟩:=h.opnd E r hv x _ (by rw [hop]; simp [opT,Op.operands]) hx
   obtain ⟨f1,f2⟩:=h.opnd E r hv y _ (by rw [hop]; simp [opT,Op.operands]) hy
   obtain ⟨c1,c2,c3⟩:=zO8 (ρ:=ρ) hvs
   obtain ⟨w',hrun,hw'⟩:=hw.store (fun c hc=>by rw [hel]; exact PR_len hc) e2 hce hl (c3 _ f2) c2
   have hsz':(zC1 ρ vs').length=i'.size:=by rw [← hsz,zB9,zD5]
   unfold Oper.wp
   have hx':(execOp a.eval o).run C.P w=.ok .skip w':=by
    have e1':a.eval x=.pointer (some ⟨(ρ c).blk,(ρ c).pre.length+off,none⟩):=e1
    simp [execOp,hop,Instr.storeAt,Instr.sureAddr,e1',f1,storeVar,zC6 hi'',hsz',c1,hrun]
   rw [hx']
   simp only [Oper.upon]
   refine ⟨j+1,ρ,?_⟩
   have:=h.next E r hs hv hn hvi (k':=j+1) (.inr ⟨by rw [hk]; rfl,rfl⟩) (ρ':=ρ) (fun _ _=>rfl) (x:=undef) (.inl hd) trivial hst (hw'.iff hpr)
   exact this
  ·exact hst.elim
 | hcl j =>
  obtain ⟨hg,hcl⟩:=hck
  rw [h.wanted E r hv hg]
  simp only [if_true]
  left
  have hjk:=h.kHard E r (by rw [hk]; rfl)
  subst hjk
  obtain ⟨e',he',hcl⟩:=zL5 hcl
  rw [he] at he'; cases he'
  obtain ⟨en',hen',hcl⟩:=zL5 hcl
  have hpr:∀ c,PR nE crs (listed.setIfInBounds i true) (j+1) c ↔ (PR nE crs listed j c∨mkC nE crs j c):=fun c=>PR_hard K hil (fun c=>by rw [hk]; simp)
  generalize hop:o.op=op at hcl
  unfold jU at hcl
  split at hcl
  ·rename_i f args tys
   split at hcl
   ·rename_i xs hxs
    obtain ⟨g1,g2⟩:=h.opnds E r hv args.toList xs (fun x hx=>by rw [hop]; exact zU6 x hx) hxs
    obtain ⟨k1,k2⟩:=hcl
    have hargs:args.map a.eval=(xs.map (SV.den ρ)).toArray:=by apply Array.toList_inj.1; simpa using g1
    unfold Oper.wp
    have hx':(execOp a.eval o).run C.P w=.ok (.enter f (xs.map (SV.den ρ)).toArray) w:=by
     simp [execOp,hop,resolve,Act.eval,Deferred.ofValue,invoke,hargs,k1]
    rw [hx']
    simp only [Oper.upon]
    refine (k2 ρ _ w (fun c hc=>.inl hc) (fun c hc hp=>?_) hw hne g2).mono ?_
    ·obtain ⟨hc1,hc2⟩:=hc
     rcases hp with hp | ⟨_,hp⟩
     ·omega
     ·rw [hc2] at hp
      have hp':j < j:=hp
      omega
    ·rintro e' w' ⟨ρ',hρ,rfl,hvw,hw',_⟩
     exact ⟨j+1,ρ',h.next E r hs hv hn hvi (.inr ⟨by rw [hk]; rfl,rfl⟩) hρ (.inr rfl) (SV.wf_mono hvw (fun c hc=>(hpr c).2 hc)) hen' (hw'.iff hpr)⟩
   ·exact hcl.elim
  ·rename_i args tys
   split at hcl
   ·rename_i xs hxs
    obtain ⟨g1,g2⟩:=h.opnds E r hv args.toList xs (fun x hx=>by rw [hop]; exact opT_app x hx) hxs
    have hargs:args.map a.eval=(xs.map (SV.den ρ)).toArray:=by apply Array.toList_inj.1; simpa using g1
    obtain ⟨ρ',w',k1,hρ,hvw,hw'⟩:=hcl ρ _ w (fun c hc=>.inl hc) (fun c hc hp=>by
     obtain ⟨hc1,hc2⟩:=hc
     rcases hp with hp | ⟨_,hp⟩
     ·omega
     ·rw [hc2] at hp
      have hp':j < j:=hp
      omega) hw hne g2 o.type
    have hx':(execOp a.eval o).run C.P w=.ok (.value (v.den ρ')) w':=by
     simp [execOp,hop,resolve,invoke,builtin,hargs,k1]
    unfold Oper.wp
    rw [hx']
    simp only [Oper.upon]
    exact ⟨j+1,ρ',h.next E r hs hv hn hvi (.inr ⟨by rw [hk]; rfl,rfl⟩) hρ (.inr rfl) (SV.wf_mono hvw (fun c hc=>(hpr c).2 hc)) hen' (hw'.iff hpr)⟩
   ·exact hcl.elim
  ·exact hcl.elim
theorem Run_drawX {sp:Sp} {ctr:Ctr} (hctr:zE4 C ctr) (hm:C.P.follows .mixedOrders=true) {en enF:List EN} {id:Nat} {k:List KI} (hE:ckE ops ks rs m=true) (hC:ckC nE ks crs m=true) (hL:lenB lv (nE+crs.length)=true) (hN:ntB ops nt=true)
  (hv:vs.length=ops.length) (hen:en.length=nE) (h0:∃ e,zD lv 0=some e∧jI nE e=en) (hF:zD lv m=some enF) (hsp:SpOk C sp) (hD:ckX C ctr sp nE ops lv crs 0 ops ks vs rs sl)
  (hK:Run C k nt (jO ops vs ops.length sl) enF):Run C (.code (.region id ops.toArray true) :: k) nt sl en:=by
 intro ρ a w hr
 have E:=ckE_ok hE
 have K:=ckC_ok hC
 have hL':=lenB_ok hL
 obtain ⟨e0,he0,hfe⟩:=h0
 have hel:e0.length=nE+crs.length:=hL' e0 (by rw [zA5] at he0; exact List.mem_of_getElem? he0)
 have hfc:∀ c,c < nE→zD e0 c=zD en c:=fun c hc=>by rw [← hfe,zJ2,zA5,zA5,List.getElem?_take,if_pos hc]
 have hne:∀ j,(Array.replicate ops.toArray.size false).getD j false=false:=fun j=>by
  simp only [Array.getD_eq_getD_getElem?,Array.getElem?_replicate]
  split <;> rfl
 have hp0:∀ c,PR nE crs (Array.replicate ops.toArray.size false) 0 c ↔ c < en.length:=fun c=>by
  rw [hen]
  refine ⟨?_,.inl⟩
  rintro (h | ⟨_,h⟩)
  ·exact h
  ·split at h
   ·rw [hne] at h; cases h
   ·omega
   ·exact h.elim
 refine wp_region_any (ops:=ops.toArray) (w:=w) hm ?_
 refine zN3 (fun listed a' w'=>∃ k' ρ',IV C nE m nt ops ks vs rs lv crs sl a listed a' w' k' ρ') ?_ ?_ _ _ _ _ (by simp) (by
  have:∀ n,unl (List.replicate n false)=n:=by
   intro n
   induction n with
   | zero=>rfl
   | succ n ih=>simp [List.replicate_succ,unl,ih]; omega
  rw [Array.toList_replicate,this]
  exact Nat.le_refl _) ⟨0,ρ,?_⟩
 ·rintro listed a' w' i hs ⟨k',ρ',hiv⟩ hi
  exact draw_stepX hctr E K hL' (ntB_ok hN) hv (by rw [← hen]; exact hr.n0) hsp hD (by simpa using hs) hiv hi
 ·rintro listed a' w' hs ⟨k',ρ',h⟩ hrd
  have hs':listed.size=ops.length:=by simpa using hs
  have all:∀ n i,i < n→i < ops.length→listed.getD i false=true:=by
   intro n
   induction n with
   | zero=>intro i hi; omega
   | succ n ih =>
    intro i hin hil
    cases hli:listed.getD i false with
    | true=>rfl
    | false =>
     exfalso
     have hmem:i∈Region.ready .any ops.toArray listed:=by
      unfold Region.ready
      simp only [List.mem_filter,List.mem_range,Bool.and_eq_true,Bool.not_eq_true']
      refine ⟨by simpa using hil,?_,?_⟩
      ·have hlt:i < listed.size:=by omega
       simp only [Array.getD_eq_getD_getElem?,Array.getElem?_eq_getElem hlt,Option.getD_some] at hli ⊢
       exact hli
      ·rw [List.getElem?_toArray,List.getElem?_eq_getElem hil]
       simp only [Option.map_some,Option.getD_some]
       rw [Array.all_eq_true_iff_forall_mem]
       intro e he
       by_cases hb:Region.binds .any e=true
       ·have hlt:=E.up i _ e (List.getElem?_eq_getElem hil) (by simpa using he) hb
        simp [hb,ih e.on (by omega) (by omega)]
       ·simp [hb]
     rw [hrd] at hmem
     cases hmem
  have hall:∀ i,i < ops.length→listed.getD i false=true:=fun i hi=>all (i+1) i (by omega) hi
  have hkm:k'=m:=by
   rcases Nat.lt_or_ge k' m with hlt | hge
   ·obtain ⟨i,hi,hj⟩:=K.cj k' hlt
    have:=(h.hard i k' hj).1 (hall i (by rw [← E.len]; exact hi))
    omega
   ·have:=h.le; omega
  subst hkm
  obtain ⟨e,he,hw⟩:=h.wd
  rw [hF] at he
  cases he
  have heF:enF.length=nE+crs.length:=hL' enF (by rw [zA5] at hF; exact List.mem_of_getElem? hF)
  have hpF:∀ c,c < enF.length ↔ PR nE crs listed k' c:=fun c=>by
   refine ⟨fun hc=>?_,fun hc=>by rw [heF]; exact PR_len hc⟩
   rcases Nat.lt_or_ge c nE with h1 | h1
   ·exact .inl h1
   ·refine .inr ⟨h1,?_⟩
    have hq:c - nE < crs.length:=by omega
    rw [List.getElem?_eq_getElem hq]
    cases hcr:crs[c - nE] with
    | f i=>exact hall i (by rw [← E.len]; exact (K.cf (c - nE) i (by rw [List.getElem?_eq_getElem hq,hcr])).1)
    | h j=>exact (K.ch (c - nE) j (by rw [List.getElem?_eq_getElem hq,hcr])).1
  refine hK ρ' a' w' ⟨hw.iff hpF,?_,h.sz,h.df,?_⟩
  ·intro d v hd
   rcases slAt_all hd hv with ⟨j,o,ho,hod,hvj⟩ | ⟨hn,hb⟩
   ·obtain ⟨h1,h2⟩:=h.tm j o v d (hall j (List.getElem?_eq_some_iff.1 ho).1) ho hvj hod
    exact ⟨h1,SV.wf_mono h2 (fun c hc=>(hpF c).2 hc)⟩
   ·obtain ⟨h1,h2⟩:=h.base d v hb
    exact ⟨(h.old d (fun i o _ ho=>hn i o ho)).trans h1,SV.wf_mono h2 (fun c hc=>(hpF c).2 (.inl hc))⟩
  ·have:=hr.n0; omega
 ·refine ⟨Nat.zero_le _,?_,?_,?_,?_,⟨e0,he0,?_⟩,?_,?_,?_,hr.sz,hr.df⟩
  ·intro i j _
   rw [hne]
   simp
  ·intro i o e hi; rw [hne] at hi; cases hi
  ·intro i hi; rw [hne] at hi; cases hi
  ·intro i _ _; exact Nat.zero_le _
  ·have h1:=hr.hw.drew
   have h2:Hw C ρ (· < en.length) e0 { w with drawn:=w.drawn+1 }:=
    ⟨fun c ty cells mu hc hce=>h1.hp c ty cells mu hc (by rw [← hfc c (by omega)]; exact hce),fun c ty cells mu hc hce=>h1.ho c ty cells mu hc (by rw [← hfc c (by omega)]; exact hce),fun c d hc hd hcl hdl=>h1.inj c d hc hd (by rw [← hfc c (by omega)]; exact hcl) (by rw [← hfc d (by omega)]; exact hdl),h1.up,fun c ty cells hc hce=>h1.mu c ty cells hc (by rw [← hfc c (by omega)]; exact hce),h1.ini⟩
   exact h2.iff hp0
  ·intro i o v d hi; rw [hne] at hi; cases hi
  ·intro t _; rfl
  ·intro t u hu
   rw [← hen]
   exact hr.tm t u hu
end
section
variable {C:Cx} {nt:Nat} {sl:List (Nat × SV)} {en:List EN} {k:List KI}
theorem zT4 {sp:Sp} {ctr:Ctr} (hctr:zE4 C ctr) (hm:C.P.follows .mixedOrders=true) (rs:List (Nat × Nat)) (hs:List HF) {id:Nat} {os:List Oper} {D:DD} (_hcd:Cmp (cX C.P C.rd ctr sp (zG en) os os 0 sl [en] [] 0 hs) D) (hE:ckE os D.ks rs D.m=true) (hC:ckC (zG en) D.ks D.crs D.m=true) (hL:lenB D.lv (zG en+zG D.crs)=true) (hN:ntB os nt=true)
  (hv:zG D.vs=zG os) {e0:List EN} (h0:zD D.lv 0=some e0) (h0':jI (zG en) e0=en) {enF:List EN} (hF:zD D.lv D.m=some enF) (hsp:SpOk C sp) (hD:ckX C ctr sp (zG en) os D.lv D.crs 0 os D.ks D.vs rs sl)
  (hK:Run C k nt (zJ C.kp (jO os D.vs (zG os) sl)) enF):Run C (.code (.region id os.toArray true) :: k) nt sl en:=by
 simp only [zB9] at hC hL hD h0' hv hK
 refine Run_drawX hctr hm hE hC hL hN hv rfl ⟨e0,h0,h0'⟩ hF hsp hD ?_
 intro ρ a w hr
 exact hK ρ a w (hr.trim _)
end
end Go.Proofs.YtfpeholdlkfmoaaGreatDoor
/- audit's next and lacks, walked. Printed by gen_aunext.py. -/
namespace Go.Proofs.YtfpeholdlkfmoaaGreatDoor
set_option linter.unusedSimpArgs false
set_option linter.unusedVariables false
set_option maxHeartbeats 8000000
open Go.RowKit
set_option maxRecDepth 100000
def evS (e:Ev) (la:Option Addr) (ln lc:Nat):List SC:=[.i .i64 e.kind,.i .i64 e.now,.i .i64 e.conn,.i .i64 e.seq,.i .i64 e.idx,.i .i64 e.cmd.op,.i .i64 e.cmd.mode,.s e.cmd.key,.s e.cmd.val,.i .u32 e.cmd.flags,.i .i64 e.cmd.exp,.b e.cmd.hasExp,.i .u64 e.cmd.cas,.b e.cmd.hasCas,.i .u64 e.cmd.delta,.i .u64 e.cmd.init,.b e.cmd.down,.b e.cmd.viv,.i .i64 e.cmd.vive,.i .i64 e.cmd.recache,.b e.cmd.inval,.i .i64 e.ans.st,.s e.ans.it.key,.i .u32 e.ans.it.flags,.s e.ans.it.val,.i .i64 e.ans.it.exp,.i .u64 e.ans.it.cas,.i .i64 e.ans.it.last,.b e.ans.it.stale,.b e.ans.it.won,.i .u64 e.ans.num,.b e.ans.w,.b e.ans.x,.b e.ans.z,.v (.slice la ln lc)]
theorem zR8 (pr:Nat→Prop) (e:Ev) (la:Option Addr) (ln lc:Nat):wfs pr (evS e la ln lc):=by
 intro z hz
 simp only [evS,List.mem_cons,List.not_mem_nil,or_false] at hz
 rcases hz with rfl | rfl | rfl | rfl | rfl | rfl | rfl | rfl | rfl | rfl | rfl | rfl | rfl | rfl | rfl | rfl | rfl | rfl | rfl | rfl | rfl | rfl | rfl | rfl | rfl | rfl | rfl | rfl | rfl | rfl | rfl | rfl | rfl | rfl | rfl <;> trivial
def evA (e:Ev) (la:Option Addr) (ln lc:Nat):Array Value:=(zC1 (fun _=>⟨0,[],[],0,none⟩) (evS e la ln lc)).toArray
theorem lkT80:lkT Tryz.prog 80:=⟨3,112,Tryz.underlying80,Tryz.underlying3,fun w=>by
 have h:(Tryz.prog.info? 112).map (fun i=>i.zero)=some (some (tnV (0,0))):=by kernel_rfl
 obtain ⟨i,hi,hz⟩:=Option.map_eq_some_iff.1 h
 simp [zeroValue,typeInfo,hi,hz]⟩
theorem next_w {w:World} {g b:Nat} {f:Int→Option (Int × Int)} (hg:g < w.heap.size) (hc:w.cell? ⟨g,4,none⟩=some (.map (some b))) (hb:b < w.heap.size) (hM:MapAt w b f) (e:Ev) (la:Option Addr) (ln lc:Nat) :
  Calls Tryz.prog 72 #[.pointer (some ⟨g,0,none⟩),.agg (evA e la ln lc)] w fun z w'=>z=.returned (.bool (zP9 f e))∧Below w.heap.size w w':=by
 refine zB8 Tryz.func72 rfl kp72 (S:=Non) (ρ:=fun _=>⟨0,[],[],0,none⟩) (en:=[]) [.c (.v (.pointer (some ⟨g,0,none⟩))),.g (evS e la ln lc)] Tryz.ntmps72 (At.nil _ _ _) (by intro y hy; simp only [List.mem_cons,List.not_mem_nil,or_false] at hy; rcases hy with rfl | rfl; trivial; exact zR8 _ _ _ _ _) (by simp) ?_
 intro C hC hP hk
 have hS:C.S=Non:=by rw [hC]; rfl
 have hw:C.w0=w:=by rw [hC]; rfl
 have hn0:C.n0=0:=by rw [hC]; rfl
 have hctr:=zE6 hP
 have hr0:C.rd g 4 1=some [.v (.map (some b))]:=rd_arg (vs:=[.map (some b)]) hS hw hg (fun j v hv=>by
  match j with
  | 0=>simp only [List.getElem?_cons_zero,Option.some.injEq] at hv; subst hv; exact hc
  | _+1=>simp at hv) rfl
 have hlk:∀ w',Upd C.S C.w0 w'→MapAt w' b f:=fun w' hu=>by
  rw [hS,hw] at hu
  obtain ⟨es,clock,ks,h1,h2,h3⟩:=hM
  exact ⟨es,clock,ks,by rw [hu.block b hb (fun h=>h)]; exact h1,h2,h3⟩
 have fin:∀ x en,zP9 f e=x→Fin C res72 (.c (.b x)) en:=fun x en h=>by subst h; exact zU4 (v:=.c (.b (zP9 f e))) hC hres72 rfl trivial
 (refine zB0 hctr (rs:=res72) true 300 _ _ _ ?_; simp (maxSteps:=1000000) only [VT,qH,qI,qK,qO,q0t,qu,qv,ev,qy,qz,zF,zG,zI,zJ,zK,↓reduceIte,reduceCtorEq,Value.oneCell',Nat.reduceEqDiff,Nat.reduceLT,zP,zR,zt,hk,kp72,evS])
 obtain ⟨s,hs⟩:∃ s,((f e.conn).getD (0,0)).1=s:=⟨_,rfl⟩
 obtain ⟨x,hx⟩:∃ x,((f e.conn).getD (0,0)).2=x:=⟨_,rfl⟩
 obtain ⟨ok,hok⟩:∃ ok,(f e.conn).isSome=ok:=⟨_,rfl⟩
 refine zT4 (sp := spL 80 b f) hctr (by rw [hP]; rfl) rs72_1 [] (ensure_type_of% (Cmp.of (by simp (maxSteps := 1000000) only [qK, qO, qP, qQ, qV, qh, q0t, qu, qv, ev, qy, zC, zD, zE, zF, zG, TE.sv, zM, ↓reduceIte, reduceCtorEq, Nat.reduceEqDiff, Nat.reduceAdd, zP, zT, zt, jA, jC, jD, jF, jG, jH, jJ, jN, cX, spL, hP, hr0, hs, hx, hok, Nat.reduceAdd]; rfl)) "" Cmp.mk) (by kernel_rfl) (by kernel_rfl) (by first | exact zA2 _ | kernel_rfl) (by kernel_rfl) (by rfl) (by rfl) (by first | exact zA0 _ | rfl) (by rfl) (spL_ok hlk (by rw [hP]; exact lkT80)) (by simp (maxSteps := 1000000) only [qK, qO, qP, qQ, qV, qh, q0t, qu, qv, ev, qy, zC, zD, zE, zG, TE.sv, zM, ↓reduceIte, reduceCtorEq, Nat.reduceEqDiff, Nat.reduceAdd, Nat.reduceSub, zP, zT, zm, zn, zq, zt, jD, jF, jG, jH, jN, jP, jQ, jR, jT, ckX, ckXO, spL, hP, hr0, hs, hx, hok, Nat.reduceAdd]) ?_
 have nx:zP9 f e=(if e.conn < 0 then false else if e.seq < 1 then false else if (!ok || decide (s < e.seq))=true then e.idx == 0 else (e.seq == s && decide (x < e.idx)) && (IntKind.i64.wrap (e.idx - 1) == x)):=by unfold zP9; rw [hs,hx,hok]
 by_cases h1:e.conn < 0
 ·have c1:decide (e.conn < 0)=true:=decide_eq_true h1
  (refine zB0 hctr (rs:=res72) true 300 _ _ _ ?_; simp (maxSteps:=1000000) only [VT,jf,qE,qF,qG,qH,qI,qK,qO,qP,qR,qS,qV,ev,qy,qz,zD,zG,zI,zJ,TE.sv,zM,↓reduceIte,reduceCtorEq,Nat.reduceEqDiff,Nat.reduceAdd,Nat.reduceLT,zP,zQ,zR,zV,zt,jN,jO,hP,hk,res72,kp72,Nat.reduceAdd,c1])
  exact fin false _ (by rw [nx,if_pos h1])
 have c1:decide (e.conn < 0)=false:=decide_eq_false h1
 by_cases h2:e.seq < 1
 ·have c2:decide (e.seq < 1)=true:=decide_eq_true h2
  (refine zB0 hctr (rs:=res72) true 300 _ _ _ ?_; simp (maxSteps:=1000000) only [VT,jf,jg,qE,qF,qG,qH,qI,qK,qO,qP,qR,qS,qV,ev,qy,qz,zD,zG,zI,zJ,TE.sv,zM,↓reduceIte,reduceCtorEq,Nat.reduceEqDiff,Nat.reduceAdd,Nat.reduceLT,zP,zQ,zR,zV,zW,zt,jN,jO,hP,hk,res72,kp72,Nat.reduceAdd,c1,c2])
  exact fin false _ (by rw [nx,if_neg h1,if_pos h2])
 have c2:decide (e.seq < 1)=false:=decide_eq_false h2
 have nx2:zP9 f e=(if (!ok || decide (s < e.seq))=true then e.idx == 0 else (e.seq == s && decide (x < e.idx)) && (IntKind.i64.wrap (e.idx - 1) == x)):=by rw [nx,if_neg h1,if_neg h2]
 cases ok with
 | false =>
  (refine zB0 hctr (rs:=res72) true 300 _ _ _ ?_; simp (maxSteps:=1000000) only [VT,jf,jg,jd,qE,qF,qG,qH,qI,qK,qO,qP,qR,qS,qT,qV,qp,ev,qy,qz,zD,zG,zI,zJ,TE.sv,zM,↓reduceIte,reduceCtorEq,Nat.reduceEqDiff,Nat.reduceAdd,Nat.reduceLT,zP,zQ,zR,zV,zW,zt,jN,jO,hP,hk,res72,kp72,Nat.reduceAdd,c1,c2])
  exact fin (e.idx == 0) _ (by rw [nx2]; rfl)
 | true =>
 by_cases h3:s < e.seq
 ·have c3:decide (s < e.seq)=true:=decide_eq_true h3
  (refine zB0 hctr (rs:=res72) true 300 _ _ _ ?_; simp (maxSteps:=1000000) only [VT,jf,jg,jZ,qE,qF,qG,qH,qI,qK,qO,qP,qR,qS,qT,qV,qp,ev,qy,qz,zD,zG,zI,zJ,TE.sv,zM,↓reduceIte,reduceCtorEq,Nat.reduceEqDiff,Nat.reduceAdd,Nat.reduceLT,zP,zQ,zR,zV,zW,zt,zu,jN,jO,hP,hk,res72,kp72,Nat.reduceAdd,c1,c2,c3])
  exact fin (e.idx == 0) _ (by rw [nx2,c3]; rfl)
 have c3:decide (s < e.seq)=false:=decide_eq_false h3
 have nx3:zP9 f e=((e.seq == s && decide (x < e.idx)) && (IntKind.i64.wrap (e.idx - 1) == x)):=by rw [nx2,c3]; rfl
 cases h4:(e.seq == s) with
 | false =>
  (refine zB0 hctr (rs:=res72) true 300 _ _ _ ?_; simp (maxSteps:=1000000) only [VT,jg,jZ,jd,qE,qF,qG,qH,qI,qK,qO,qP,qR,qS,qT,qV,qp,ev,qy,qz,zD,zG,zI,zJ,TE.sv,zM,↓reduceIte,reduceCtorEq,Nat.reduceEqDiff,Nat.reduceAdd,Nat.reduceLT,zP,zQ,zR,zV,zW,zt,zu,jN,jO,hP,hk,res72,kp72,Nat.reduceAdd,c1,c2,c3,h4])
  exact fin false _ (by rw [nx3,h4]; rfl)
 | true =>
 cases h5:decide (x < e.idx) with
 | false =>
  (refine zB0 hctr (rs:=res72) true 300 _ _ _ ?_; simp (maxSteps:=1000000) only [VT,jf,jg,jZ,jd,qE,qF,qG,qH,qI,qK,qO,qP,qR,qS,qT,qV,qp,ev,qy,qz,zD,zG,zI,zJ,TE.sv,zM,↓reduceIte,reduceCtorEq,Nat.reduceEqDiff,Nat.reduceAdd,Nat.reduceLT,zP,zQ,zR,zV,zW,zt,zu,jN,jO,hP,hk,res72,kp72,Nat.reduceAdd,c1,c2,c3,h4,h5])
  exact fin false _ (by rw [nx3,h4,h5]; rfl)
 | true =>
  (refine zB0 hctr (rs:=res72) true 300 _ _ _ ?_; simp (maxSteps:=1000000) only [VT,jf,jg,jZ,qE,qF,qG,qH,qI,qK,qO,qP,qR,qS,qT,qV,qp,ev,qy,qz,zD,zG,zI,zJ,TE.sv,zM,↓reduceIte,reduceCtorEq,Nat.reduceEqDiff,Nat.reduceAdd,Nat.reduceLT,zP,zQ,zR,zV,zW,zt,zu,jN,jO,hP,hk,res72,kp72,Nat.reduceAdd,c1,c2,c3,h4,h5])
  exact fin _ _ (by rw [nx3,h4,h5]; rfl)
theorem lacks_w {w:World} (c:Cd) (st:Int):Calls Tryz.prog 73 #[.agg (cdA c),.int .i64 st] w fun z w'=>z=.returned (.bool (zK2 c st))∧Below w.heap.size w w':=by
 refine zB8 Tryz.func73 rfl kp73 (S:=Non) (ρ:=fun _=>⟨0,[],[],0,none⟩) (en:=[]) [.g (cdS c),.c (.i .i64 st)] Tryz.ntmps73 (At.nil _ _ _) (by intro y hy; simp only [List.mem_cons,List.not_mem_nil,or_false] at hy; rcases hy with rfl | rfl; exact cdS_wf _ _; trivial) (by simp) ?_
 intro C hC hP hk
 have hctr:=zE6 hP
 have fin:∀ x en,zK2 c st=x→Fin C res73 (.c (.b x)) en:=fun x en h=>by subst h; exact zU4 (v:=.c (.b (zK2 c st))) hC hres73 rfl trivial
 by_cases h1:st=1
 ·have c1:(st == 1)=true:=by simpa using h1
  have l:zK2 c st=(c.op == 1 && c.viv):=by unfold zK2; rw [if_pos h1]
  cases h:(c.op == 1) with
  | false =>
   (refine zB0 hctr (rs:=res73) true 300 _ _ _ ?_; simp (maxSteps:=1000000) only [VT,jf,jg,jd,qE,qF,qG,qH,qI,qK,qO,qP,qR,qS,qV,qp,q0t,qu,qv,ev,qy,qz,zD,zF,zG,zI,zJ,TE.sv,zK,zM,↓reduceIte,reduceCtorEq,Nat.reduceEqDiff,Nat.reduceLT,zP,zQ,zR,zV,zW,zt,zu,hP,hk,res73,kp73,cdS,c1,h])
   exact fin false _ (by rw [l,h]; rfl)
  | true =>
   (refine zB0 hctr (rs:=res73) true 300 _ _ _ ?_; simp (maxSteps:=1000000) only [VT,jf,jZ,qE,qF,qG,qH,qI,qK,qO,qP,qR,qS,qV,qp,q0t,qu,qv,ev,qy,qz,zD,zF,zG,zI,zJ,TE.sv,zK,zM,↓reduceIte,reduceCtorEq,Nat.reduceEqDiff,Nat.reduceLT,zP,zQ,zR,zV,zt,zu,hP,hk,res73,kp73,cdS,c1,h])
   exact fin _ _ (by rw [l,h]; rfl)
 have c1:(st == 1)=false:=by simpa using h1
 by_cases h2:st=2
 ·have c2:(st == 2)=true:=by simpa using h2
  (refine zB0 hctr (rs:=res73) true 300 _ _ _ ?_; simp (maxSteps:=1000000) only [VT,jf,jg,qE,qF,qG,qH,qI,qK,qO,qP,qR,qS,qV,q0t,qu,qv,ev,qy,qz,zD,zF,zG,zI,zJ,TE.sv,zK,zM,↓reduceIte,reduceCtorEq,Nat.reduceEqDiff,Nat.reduceLT,zP,zQ,zR,zV,zW,zt,zu,hP,hk,res73,kp73,cdS,c1,c2])
  exact fin _ _ (by unfold zK2; rw [if_neg h1,if_pos h2])
 have c2:(st == 2)=false:=by simpa using h2
 by_cases h3:st=6
 ·have c3:(st == 6)=true:=by simpa using h3
  (refine zB0 hctr (rs:=res73) true 300 _ _ _ ?_; simp (maxSteps:=1000000) only [VT,jf,jg,qE,qF,qG,qH,qI,qK,qO,qP,qR,qS,qV,q0t,qu,qv,ev,qy,qz,zD,zF,zG,zI,zJ,TE.sv,zK,zM,↓reduceIte,reduceCtorEq,Nat.reduceEqDiff,Nat.reduceLT,zP,zQ,zR,zV,zW,zt,zu,hP,hk,res73,kp73,cdS,c1,c2,c3])
  exact fin _ _ (by unfold zK2; rw [if_neg h1,if_neg h2,if_pos h3])
 have c3:(st == 6)=false:=by simpa using h3
 (refine zB0 hctr (rs:=res73) true 300 _ _ _ ?_; simp (maxSteps:=1000000) only [VT,jg,qE,qF,qG,qH,qI,qK,qO,qR,qS,q0t,qu,qv,ev,qy,qz,zF,zG,zI,zJ,TE.sv,zK,↓reduceIte,reduceCtorEq,Nat.reduceEqDiff,Nat.reduceLT,zP,zQ,zR,zW,zt,hk,res73,kp73,cdS,c1,c2,c3])
 exact fin false _ (by unfold zK2; rw [if_neg h1,if_neg h2,if_neg h3])
end Go.Proofs.YtfpeholdlkfmoaaGreatDoor
/- The auditor in memory: its cells, its map; what goes calls. -/
namespace Go.Proofs.YtfpeholdlkfmoaaGreatDoor
set_option linter.unusedSimpArgs false
set_option linter.unusedVariables false
open Go.RowKit
set_option maxRecDepth 100000
def roE (L:List It):EN:=⟨(33,0,rowQ L.length),zB6 itS L,false⟩
theorem zW5 {ρ:Nat→RE} {pr:Nat→Prop} {en:List EN} {w:World} {d n:Nat} {L:List It} {mu:Bool} (hp:Hp ρ pr en w) (ho:Ho ρ pr en) (ld:pr d) (hn:n=L.length) (hd:zD en d=some ⟨(33,0,rowQ n),zB6 itS L,mu⟩):OwnI 0 w (zE9 (ρ d) L.length) L:=by
 subst hn
 obtain ⟨_,hO⟩:=ho d _ _ _ ld hd
 rcases hO with ⟨h1,h2,h3,h4,h5⟩ | ⟨h1,h2,h3⟩
 ·have hwd:=(hp d _ _ _ ld hd).heap ⟨(by show ¬ (33:Nat)=zE8; decide),h1⟩
  rw [h2,List.nil_append,zC0] at hwd
  by_cases hc:(ρ d).cap=0
  ·have hL:L=[]:=List.eq_nil_of_length_eq_zero (by omega)
   subst hL
   exact .inl ⟨_,by rw [zF2 h1,hc]; rfl,rfl⟩
  ·exact .inr ⟨_,_,(ρ d).post,zF2 h1 _,Nat.zero_le _,by omega,⟨hwd,h3,h5⟩⟩
 ·have hL:L=[]:=List.eq_nil_of_length_eq_zero h2
  subst hL
  cases hnl:(ρ d).nl with
  | none=>exact absurd hnl h1
  | some p=>exact .inl ⟨p,zG4 hnl _,rfl⟩
theorem own_re {w:World} {v:Value} {L:List It} (h:OwnI 0 w v L) (x0:Nat):∃ r:RE,zE9 r L.length=v∧rowQ L.length r∧(r.nl=none→w.heap[r.blk]?=some (.cells (r.pre++zD4 L++r.post).toArray 33 (0,0)))∧(r.nl ≠ none→L=[]∧r.blk=x0)∧r.pre=[]:=by
 rcases h with ⟨p,rfl,rfl⟩ | ⟨g,cap,R,rfl,_,hc,hI⟩
 ·exact ⟨⟨x0,[],[],0,some p⟩,rfl,.inr ⟨by simp,rfl,rfl⟩,(fun h=>by cases h),fun _=>⟨rfl,rfl⟩,rfl⟩
 ·exact ⟨⟨g,[],R,cap,none⟩,rfl,.inl ⟨rfl,rfl,hI.fit,hI.le,hI.big⟩,fun _=>by rw [List.nil_append]; exact hI.heap,fun h=>absurd rfl h,rfl⟩
theorem zV6 {b:Nat} {w':World} {r:RE} {L:List It} (h:RowOk b w' r 33 8 L.length (zD4 L)):OwnI b w' (zE9 r L.length) L:=by
 obtain ⟨k0,k1,k2,k3⟩:=h
 rcases k1.2 with ⟨h1,h2,h3,h4,h5⟩ | ⟨h1,h2,h3⟩
 ·by_cases hc:r.cap=0
  ·have hL:L=[]:=List.eq_nil_of_length_eq_zero (by omega)
   subst hL
   exact .inl ⟨_,by rw [zF2 h1,hc]; rfl,rfl⟩
  ·refine .inr ⟨_,_,r.post,zF2 h1 _,k0,by omega,⟨?_,?_,h5⟩⟩
   ·rw [k2 h1,h2]; rfl
   ·have:=zB2 L; omega
 ·have hL:L=[]:=List.eq_nil_of_length_eq_zero h2
  subst hL
  exact .inl ⟨none,zG4 h1 _,rfl⟩
def auV (v:Value) (W:Au) (b:Nat):List Value:=[v,.int .u64 W.X.cas,.int .i64 W.X.flush,.int .i64 W.now,.map (some b),.int .i64 W.most]
def auS (v:SC) (W:Au) (b:Nat):List SC:=[v,.i .u64 W.X.cas,.i .i64 W.X.flush,.i .i64 W.now,.v (.map (some b)),.i .i64 W.most]
def stE (v:SC) (W:Au) (b:Nat):EN:=⟨(82,0,whole),auS v W b,true⟩
def AuAt (w:World) (g b:Nat) (W:Au):Prop:=(∃ v,w.heap[g]?=some (.cells (auV v W b).toArray 82 (0,0))∧OwnI 0 w v W.X.items)∧MapAt w b W.tn
theorem auS_wf {pr:Nat→Prop} {v:SC} {W:Au} {b:Nat} (h:v.wf pr):wfs pr (auS v W b):=by
 intro z hz
 simp only [auS,List.mem_cons,List.not_mem_nil,or_false] at hz
 rcases hz with rfl | rfl | rfl | rfl | rfl | rfl
 ·exact h
 all_goals trivial
def RawK (w:World) (a:Option Addr) (ws:List (List UInt8)):Prop:=∀ k s,ws[k]?=some s→∃ g o,a=some ⟨g,o,none⟩∧g < w.heap.size∧w.cell? ⟨g,o+k,none⟩=some (.string ⟨s.toArray⟩)
structure GoOk (W:Au) (e:Ev):Prop where
 sorted:Sorted W.X.items
 len:W.X.items.length≤1000000
 bd:∀ x∈W.X.items,x.key.length≤100000000∧x.val.length≤100000000∧-4398046511104≤x.exp∧x.exp≤9223372036854775807
 cd:CdOk e.cmd
def GoP (w:World) (g b:Nat) (W:Au) (e:Ev) (z:Ending) (w':World):Prop:=z=.returned (.bool (zD7 W e).isSome)∧Upd (fun q=>q=g∨q=b) w w'∧AuAt w' g b ((zD7 W e).getD W)
theorem au_at {w:World} {g b:Nat} {W:Au} (h:AuAt w g b W):∃ ρ:Nat→RE,At (fun q=>q=g) ρ [stE (.rw 1 W.X.items.length) W b,roE W.X.items] w∧(ρ 0).blk=g∧(ρ 0).pre=[]:=by
 obtain ⟨⟨v,hg,ho⟩,hM⟩:=h
 obtain ⟨r,h1,h2,h3,h4,h5⟩:=own_re ho 0
 refine ⟨fun i=>if i=0 then ⟨g,[],[],0,none⟩ else r,⟨?_,?_,?_,?_⟩,rfl,rfl⟩
 ·intro c ty cells mu hc he
  match c with
  | 0 =>
   simp only [zD,Option.some.injEq,stE,EN.mk.injEq] at he
   obtain ⟨rfl,rfl,rfl⟩:=he
   refine ⟨fun _=>?_,auS_wf (by show 1 < 2; decide),fun hd=>absurd (show (82:Nat)=zE8 from hd) (by decide),fun hn=>absurd rfl hn⟩
   have e1:zC1 (fun i=>if i=0 then (⟨g,[],[],0,none⟩:RE) else r) (auS (.rw 1 W.X.items.length) W b)=auV v W b:=by
    show [zE9 r W.X.items.length,_,_,_,_,_]=_
    rw [h1]; rfl
   rw [e1]
   show w.heap[g]?=some (.cells (([]:List Value)++auV v W b++[]).toArray _ _)
   rw [List.nil_append,List.append_nil]; exact hg
  | 1 =>
   simp only [zD,Option.some.injEq,roE,EN.mk.injEq] at he
   obtain ⟨rfl,rfl,rfl⟩:=he
   refine ⟨fun hl=>?_,zF4 _ _,fun hd=>absurd (show (33:Nat)=zE8 from hd) (by decide),fun hn=>?_⟩
   ·rw [zC0]; exact h3 hl.2
   ·rw [(h4 hn).1]; rfl
  | c+2=>exact absurd hc (by show ¬ c+2 < 2; omega)
 ·intro c ty cells mu hc he
  match c with
  | 0 =>
   simp only [zD,Option.some.injEq,stE,EN.mk.injEq] at he
   obtain ⟨rfl,rfl,rfl⟩:=he
   exact ⟨rfl,rfl,rfl⟩
  | 1 =>
   simp only [zD,Option.some.injEq,roE,EN.mk.injEq] at he
   obtain ⟨rfl,rfl,rfl⟩:=he
   exact ⟨by show r.pre.length=0; rw [h5]; rfl,h2⟩
  | c+2=>exact absurd hc (by show ¬ c+2 < 2; omega)
 ·have hne:∀ c d,c=0→d=1→(if d=0 then (⟨g,[],[],0,none⟩:RE) else r).nl=none→¬ g=r.blk:=fun c d _ hd hl hb=>by
   subst hd
   have:=h3 hl
   rw [← hb,hg] at this
   simp only [Option.some.injEq,Obj.cells.injEq] at this
   exact absurd this.2.1 (by decide)
  intro c d hc hd h1' h2' h3'
  match c,d with
  | 0,0=>rfl
  | 1,1=>rfl
  | 0,1=>exact absurd h3' (hne 0 1 rfl rfl ((zB4 (c:=1) (cells:=zB6 itS W.X.items) (mu:=false) rfl).1 h2').2)
  | 1,0=>exact absurd h3'.symm (hne 0 1 rfl rfl ((zB4 (c:=1) (cells:=zB6 itS W.X.items) (mu:=false) rfl).1 h1').2)
  | c+2,_=>exact absurd hc (by show ¬ c+2 < 2; omega)
  | _,d+2=>exact absurd hd (by show ¬ d+2 < 2; omega)
 ·intro c ty cells hc he
  match c with
  | 0=>rfl
  | 1=>simp only [zD,Option.some.injEq,roE,EN.mk.injEq] at he; exact absurd he.2.2 (by decide)
  | c+2=>exact absurd hc (by show ¬ c+2 < 2; omega)
theorem alive_h {C:Cx} {nE N:Nat} {mk:Nat→Prop} {en en':List EN} {W:Au} {b:Nat} {mu:Bool} (now:Int) (hP:C.P=Tryz.prog) (h0:zD en 0=some (stE (.rw 1 W.X.items.length) W b)) (h1:zD en 1=some ⟨(33,0,rowQ W.X.items.length),zB6 itS W.X.items,mu⟩) (hE:1 < nE) (hl:W.X.items.length≤100000000)
  (hmk:∀ q,mk q ↔ q=N) (hn0:C.n0≤N) (hN:zD en' N=some (owE (zB1 W.X now).items)) (hq:∀ q,q ≠ N→zD en' q=zD en q) :
  zP3 C nE mk en en' 71 [.c (.p 0 0),.c (.i .i64 now)] (.g [.rw N (zB1 W.X now).items.length,.i .u64 (zB1 W.X now).cas,.i .i64 (zB1 W.X now).flush]):=by
 refine own_h (L:=(zB1 W.X now).items) (fun v=>.agg #[v,.int .u64 (zB1 W.X now).cas,.int .i64 (zB1 W.X now).flush]) hP (fun args w=>Tryz.call71 args w) hmk hn0 hN hq (fun pr h=>zC8 h) (fun ρ=>rfl) ?_
 intro ρ pr w hw hwf
 have l0:pr 0:=hwf (.c (.p 0 0)) (List.mem_cons_self ..)
 have g0:=hw.hp 0 _ _ _ l0 h0
 have l1:pr 1:=g0.wf (.rw 1 W.X.items.length) (List.mem_cons_self ..)
 obtain ⟨_,hpre,hpost⟩:=hw.ho 0 _ _ _ l0 h0
 have hnl:(ρ 0).nl=none:=by
  cases hx:(ρ 0).nl with
  | none=>rfl
  | some p=>exact absurd (g0.non (by rw [hx]; exact fun h=>nomatch h)) (by simp [auS])
 have hb:=g0.heap ⟨(by show ¬ (82:Nat)=zE8; decide),hnl⟩
 rw [hpre,hpost,List.nil_append,List.append_nil] at hb
 have hg:=(Array.getElem?_eq_some_iff.1 hb).1
 obtain ⟨a,c,hv,hr⟩:=zS9 (zW5 hw.hp hw.ho l1 rfl h1)
 have hcl:StCells w (ρ 0).blk 0 a W.X.items.length c W.X:=by
  refine ⟨?_,?_,?_⟩
  all_goals rw [Go.cell_of_row w _ _ _ _ (0,0) hb]
  ·rw [← hv]; rfl
  ·rfl
  ·rfl
 have hw9:=alive_w (c:=c) hg hcl hr rfl hl now
 have hargs:(List.map (SV.den ρ) [.c (.p 0 0),.c (.i .i64 now)]).toArray=#[.pointer (some ⟨(ρ 0).blk,0,none⟩),.int .i64 now]:=by
  simp only [List.map_cons,List.map_nil,SV.den,SC.den,zG5,hpre,List.length_nil,Nat.zero_add]
 rw [hargs]
 refine hw9.mono ?_
 rintro z w'' ⟨⟨r,hr',rfl⟩,hbb⟩
 exact ⟨_,rfl,zV6 hr',hbb⟩
theorem modApc_h {C:Cx} {nE M N:Nat} {mk:Nat→Prop} {en en':List EN} {X:St} {now:Int} {cd:Cd} {most:Int} (R:St × An) (hR:zA9 X now cd most=R) (hP:C.P=Tryz.prog) (hE:EnvC C) (hG:Good X) (hcd:CdOk cd) (hM:zD en M=some (owE X.items)) {n:Nat} (hn:n=X.items.length)
  (hmk:∀ q,mk q ↔ q=N) (hn0:C.n0≤N) (hN:zD en' N=some (owE R.1.items)) (hq:∀ q,q ≠ N→zD en' q=zD en q) :
  zP3 C nE mk en en' 12 [.g [.rw M n,.i .u64 X.cas,.i .i64 X.flush],.c (.i .i64 now),.g (cdS cd),.c (.i .i64 most)] (.t [.g [.rw N R.1.items.length,.i .u64 R.1.cas,.i .i64 R.1.flush],.g (anS R.2)]):=by
 subst hn
 refine own_h (L:=R.1.items) (fun v=>.tuple #[.agg #[v,.int .u64 R.1.cas,.int .i64 R.1.flush],.agg (anA R.2)]) hP (fun args w=>Tryz.call12 args w) hmk hn0 hN hq ?_ (fun ρ=>rfl) ?_
 ·intro pr h y hy
  simp only [List.mem_cons,List.not_mem_nil,or_false] at hy
  rcases hy with rfl | rfl
  ·exact zC8 h
  ·exact anS_wf _ _
 intro ρ pr w hw hwf
 have h0:wfs pr [.rw M X.items.length,.i .u64 X.cas,.i .i64 X.flush]:=hwf (.g _) (List.mem_cons_self ..)
 have lM:pr M:=h0 (.rw M _) (List.mem_cons_self ..)
 have:=apply_any X _ now cd most w (own_ow hw.hp hw.ho lM hM) hG hcd (hE w hw.up)
 rw [hR] at this
 exact this
end Go.Proofs.YtfpeholdlkfmoaaGreatDoor
/- audit's goes, walked. Printed by gen_augoes.py. -/
namespace Go.Proofs.YtfpeholdlkfmoaaGreatDoor
set_option linter.unusedSimpArgs false
set_option linter.unusedVariables false
set_option maxHeartbeats 8000000
open Go.RowKit
set_option maxRecDepth 100000
def rowNx (W:Au) (b:Nat) (e:Ev) (la:Option Addr) (ln lc:Nat) (en:List EN):List SV→Option (Prop × SV)
 | [.c (.p 0 0),.g l]=>some (l=evS e la ln lc∧zD en 0=some (stE (.rw 1 W.X.items.length) W b),.c (.b (zP9 W.tn e)))
 | _=>none
def rowLk (e:Ev):List SV→Option (Prop × SV)
 | [.g l,.c (.i .i64 st)]=>some (l=cdS e.cmd,.c (.b (zK2 e.cmd st)))
 | _=>none
def goC (W:Au) (b:Nat) (e:Ev) (la:Option Addr) (ln lc:Nat):Ctr:=fun f en xs=>match f with
 | 72=>rowNx W b e la ln lc en xs
 | 73=>rowLk e xs
 | _=>none
theorem goC_ok {C:Cx} {W:Au} {b:Nat} {e:Ev} {la:Option Addr} {ln lc:Nat} (hP:C.P=Tryz.prog) (hlk:∀ w,Upd C.S C.w0 w→MapAt w b W.tn):zE4 C (goC W b e la ln lc):=by
 intro f en xs p v h hp ρ w' hup hHp hHo hinj hwf
 unfold goC at h
 split at h
 ·rw [hP]
  refine ⟨fun args w=>Tryz.call72 args w,?_⟩
  unfold rowNx at h
  split at h <;> simp only [Option.some.injEq,Prod.mk.injEq,reduceCtorEq] at h
  obtain ⟨rfl,rfl⟩:=h
  obtain ⟨rfl,h0⟩:=hp
  refine ⟨trivial,?_⟩
  have l0:0 < en.length:=by rw [zA5] at h0; exact (List.getElem?_eq_some_iff.1 h0).1
  have g0:=hHp 0 _ _ _ l0 h0
  obtain ⟨_,hpre,hpost⟩:=hHo 0 _ _ _ l0 h0
  have hnl:(ρ 0).nl=none:=by
   cases hx:(ρ 0).nl with
   | none=>rfl
   | some p=>exact absurd (g0.non (by rw [hx]; exact fun h=>nomatch h)) (by simp [auS])
  have hb:=g0.heap ⟨(by show ¬ (82:Nat)=zE8; decide),hnl⟩
  rw [hpre,hpost,List.nil_append,List.append_nil] at hb
  have hM:=hlk w' hup
  have hbl:b < w'.heap.size:=by obtain ⟨es,cl,ks,hbb,_⟩:=hM; exact (Array.getElem?_eq_some_iff.1 hbb).1
  have:=next_w (g:=(ρ 0).blk) (Array.getElem?_eq_some_iff.1 hb).1 (by rw [Go.cell_of_row w' _ _ _ _ (0,0) hb]; rfl) hbl hM e la ln lc
  have hargs:(List.map (SV.den ρ) [.c (.p 0 0),.g (evS e la ln lc)]).toArray=#[.pointer (some ⟨(ρ 0).blk,0,none⟩),.agg (evA e la ln lc)]:=by
   simp only [List.map_cons,List.map_nil,SV.den,SC.den,zG5,hpre,List.length_nil,Nat.zero_add]
   rfl
  rw [hargs]
  exact this
 ·rw [hP]
  refine ⟨fun args w=>Tryz.call73 args w,?_⟩
  unfold rowLk at h
  split at h <;> simp only [Option.some.injEq,Prod.mk.injEq,reduceCtorEq] at h
  obtain ⟨rfl,rfl⟩:=h
  subst hp
  exact ⟨trivial,lacks_w e.cmd _⟩
 ·cases h
theorem go_fin {C E:Cx} {fn:Func} {rs:List ResultVar} {w w1 w2:World} {ρ1:Nat→RE} {en0 en:List EN} {g b:Nat} {W W':Au} {e:Ev} {N:Nat} {mu:Bool} (hCx:Ctx E Tryz.prog fn (GoP w g b W e)) (hrs:fn.results.toList=rs) (hS:C.S=fun q=>q=g) (hw:C.w0=w) (hn0:C.n0=2) (hr0:(C.ρ0 0).blk=g) (hw1:Hw C ρ1 (· < en0.length) en0 w1) (h2:2≤en0.length)
  (hup2:Upd (fun q=>C.S q∨q=b) C.w0 w2) (hM2:MapAt w2 b W'.tn) (hES:E.S=wrB ρ1 en0) (hEw:E.w0=w2) (hEn:E.n0=en0.length) (hEr:E.ρ0=ρ1) (hbl:b < w.heap.size) (hbg:b ≠ g) (hF:zD7 W e=some W')
  (h4:zD en 0=some (stE (.rw N W'.X.items.length) W' b)) (h5:zD en N=some ⟨(33,0,rowQ W'.X.items.length),zB6 itS W'.X.items,mu⟩):Fin E rs (.c (.b true)) en:=by
 refine zK7 hCx hrs fun ρ' w' hw' hn' _=>?_
 have hwr:∀ q,wrB ρ1 en0 q→q=g∨w.heap.size≤q:=by
  rintro q ⟨c,t,cells,hc,rfl⟩
  have lc:c < en0.length:=by rw [zA5] at hc; exact (List.getElem?_eq_some_iff.1 hc).1
  have:=hw1.mu c t cells lc hc
  rw [hS,hw] at this
  exact this
 have hup:=hw'.up
 rw [hES,hEw] at hup
 rw [hS,hw] at hup2
 refine ⟨by rw [hF]; rfl,hup2.trans hup (fun i hi h=>.inl ((hwr i h).resolve_right (by omega))),?_⟩
 rw [hF]
 show AuAt w' g b W'
 have l0:0 < en.length:=by rw [zA5] at h4; exact (List.getElem?_eq_some_iff.1 h4).1
 have lN:N < en.length:=by rw [zA5] at h5; exact (List.getElem?_eq_some_iff.1 h5).1
 have g0:=hw'.hp 0 _ _ _ l0 h4
 obtain ⟨_,hpre,hpost⟩:=hw'.ho 0 _ _ _ l0 h4
 have hnl:(ρ' 0).nl=none:=by
  cases hx:(ρ' 0).nl with
  | none=>rfl
  | some p=>exact absurd (g0.non (by rw [hx]; exact fun h=>nomatch h)) (by simp [auS])
 have hb0:=g0.heap ⟨(by show ¬ (82:Nat)=zE8; decide),hnl⟩
 rw [hpre,hpost,List.nil_append,List.append_nil] at hb0
 have hg9:(ρ' 0).blk=g:=by
  rw [hw'.ini 0 (by rw [hEn]; omega),hEr,hw1.ini 0 (by rw [hn0]; decide)]
  exact hr0
 rw [hg9] at hb0
 refine ⟨⟨zE9 (ρ' N) W'.X.items.length,hb0,zW5 hw'.hp hw'.ho lN rfl h5⟩,?_⟩
 obtain ⟨es,cl,ks,m1,m2,m3⟩:=hM2
 refine ⟨es,cl,ks,?_,m2,m3⟩
 have hb2:b < w2.heap.size:=(Array.getElem?_eq_some_iff.1 m1).1
 rw [hup.block b hb2 (fun h=>by rcases hwr b h with h | h; exact hbg h; omega)]
 exact m1
def goS (i:Nat) (la:Option Addr) (ln lc:Nat):List (Nat × SV):=[(30,.c (.i .i64 (i:Int))),(29,.c (.i .i64 (ln:Int))),(28,.c (.v (.slice la ln lc))),(5,.c (.p 4 0)),(3,.c (.p 2 0)),(0,.c (.p 0 0))]
def goE (W:Au) (b:Nat) (e:Ev) (la:Option Addr) (ln lc:Nat) (Y:St):List EN:=[stE (.rw 1 W.X.items.length) W b,roE W.X.items,⟨(48,0,whole),evS e la ln lc,true⟩,owE Y.items,⟨(25,0,whole),[.rw 3 Y.items.length,.i .u64 Y.cas,.i .i64 Y.flush],true⟩]
theorem drops_snoc {X Y:St} {k:List UInt8}:∀ {ks:List (List UInt8)},zF8 X ks=some Y→zF8 X (ks++[k])=zQ5 Y k:=by
 intro ks
 induction ks generalizing X with
 | nil=>intro h; simp only [zF8,Option.some.injEq] at h; subst h; simp only [List.nil_append,zF8]; cases zQ5 X k <;> rfl
 | cons q ks ih =>
  intro h
  simp only [List.cons_append,zF8] at h ⊢
  cases hq:zQ5 X q with
  | none=>rw [hq] at h; cases h
  | some Z=>rw [hq] at h; simp only at h ⊢; exact ih h
theorem drops_none {X:St}:∀ {ks ms:List (List UInt8)},zF8 X ks=none→zF8 X (ks++ms)=none:=by
 intro ks
 induction ks generalizing X with
 | nil=>intro ms h; cases h
 | cons q ks ih =>
  intro ms h
  simp only [List.cons_append,zF8] at h ⊢
  cases hq:zQ5 X q with
  | none=>rfl
  | some Z=>rw [hq] at h; simp only at h ⊢; exact ih h
theorem goes_w {w:World} {g b:Nat} {W:Au} {e:Ev} {la:Option Addr} {ln lc:Nat} (hA:AuAt w g b W) (hG:GoOk W e) (hK:RawK w la e.lost) (hln:ln=e.lost.length) (hlm:ln≤9223372036854775807) (hlg:∀ a,la=some a→a.block ≠ g) (hE:∀ w',Upd (fun q=>q=g∨q=b) w w'→Env w') :
  Calls Tryz.prog 63 #[.pointer (some ⟨g,0,none⟩),.agg (evA e la ln lc)] w (GoP w g b W e):=by
 obtain ⟨ρ,hat,hρ,hρ2⟩:=au_at hA
 have hargs:#[.pointer (some ⟨g,0,none⟩),.agg (evA e la ln lc)]=(List.map (SV.den ρ) [.c (.p 0 0),.g (evS e la ln lc)]).toArray:=by
  simp only [List.map_cons,List.map_nil,SV.den,SC.den,zG5,hρ,hρ2,List.length_nil,Nat.zero_add]
  rfl
 rw [hargs]
 refine zB8 Tryz.func63 rfl kp63 (S:=fun q=>q=g) (ρ:=ρ) (en:=[stE (.rw 1 W.X.items.length) W b,roE W.X.items]) [.c (.p 0 0),.g (evS e la ln lc)] Tryz.ntmps63 hat (by intro y hy; simp only [List.mem_cons,List.not_mem_nil,or_false] at hy; rcases hy with rfl | rfl; (show 0 < 2; decide); exact zR8 _ _ _ _ _) (by simp) ?_
 intro C hC hP hk
 have hS:C.S=fun q=>q=g:=by rw [hC]; rfl
 have hw:C.w0=w:=by rw [hC]; rfl
 have hn0:C.n0=2:=by rw [hC]; rfl
 have hr0:C.ρ0=ρ:=by rw [hC]; rfl
 have hCx:Ctx C Tryz.prog Tryz.f63 (GoP w g b W e):=by rw [hC]; exact zL1
 obtain ⟨⟨v0,hg0,ho0⟩,hM0⟩:=id hA
 have hbl:b < w.heap.size:=by obtain ⟨es,cl,ks,hbb,_⟩:=hM0; exact (Array.getElem?_eq_some_iff.1 hbb).1
 have hbg:b ≠ g:=by
  obtain ⟨es,cl,ks,hbb,_⟩:=hM0
  rintro rfl
  rw [hbb] at hg0
  cases hg0
 have hlk:∀ w',Upd C.S C.w0 w'→MapAt w' b W.tn:=fun w' hu=>by
  rw [hS,hw] at hu
  obtain ⟨es,cl,ks,h1,h2,h3⟩:=hM0
  exact ⟨es,cl,ks,by rw [hu.block b hbl (fun h=>hbg h)]; exact h1,h2,h3⟩
 have hEC:EnvC C:=fun w' hu=>by
  rw [hS,hw] at hu
  exact hE w' (hu.mono fun _ _ h=>.inl h)
 have hctr:zE4 C (goC W b e la ln lc):=goC_ok hP hlk
 have fin:∀ (W':Au) (ok:Bool) (N:Nat) (en:List EN) (mu:Bool),(zD7 W e).isSome=ok→(zD7 W e).getD W=W'→W'.tn=W.tn→zD en 0=some (stE (.rw N W'.X.items.length) W' b)→zD en N=some ⟨(33,0,rowQ W'.X.items.length),zB6 itS W'.X.items,mu⟩→Fin C res63 (.c (.b ok)) en:=fun W' ok N en mu h1 h2 h3 h4 h5=>by
  refine zK7 hCx hres63 fun ρ' w' hw' hn' _=>?_
  have hup:=hw'.up
  refine ⟨by rw [h1]; rfl,?_,?_⟩
  ·rw [hS,hw] at hup
   exact hup.mono fun _ _ h=>.inl h
  rw [h2]
  have l0:0 < en.length:=by rw [zA5] at h4; exact (List.getElem?_eq_some_iff.1 h4).1
  have lN:N < en.length:=by rw [zA5] at h5; exact (List.getElem?_eq_some_iff.1 h5).1
  have g0:=hw'.hp 0 _ _ _ l0 h4
  obtain ⟨_,hpre,hpost⟩:=hw'.ho 0 _ _ _ l0 h4
  have hnl:(ρ' 0).nl=none:=by
   cases hx:(ρ' 0).nl with
   | none=>rfl
   | some p=>exact absurd (g0.non (by rw [hx]; exact fun h=>nomatch h)) (by simp [auS])
  have hb0:=g0.heap ⟨(by show ¬ (82:Nat)=zE8; decide),hnl⟩
  rw [hpre,hpost,List.nil_append,List.append_nil] at hb0
  have hg9:(ρ' 0).blk=g:=by rw [hw'.ini 0 (by rw [hn0]; decide),hr0]; exact hρ
  rw [hg9] at hb0
  refine ⟨⟨zE9 (ρ' N) W'.X.items.length,hb0,zW5 hw'.hp hw'.ho lN rfl h5⟩,?_⟩
  rw [h3]
  exact hlk w' hw'.up
 obtain ⟨Z,hZ⟩:∃ Z,zB1 W.X e.now=Z:=⟨_,rfl⟩
 (refine zB0 hctr (rs:=res63) true 300 _ _ _ ?_; simp (maxSteps:=1000000) only [VT,qH,qI,qK,qO,q0t,qu,qv,ev,qy,qz,zF,zG,zI,zJ,zK,↓reduceIte,reduceCtorEq,Value.oneCell',Nat.reduceEqDiff,Nat.reduceAdd,Nat.reduceLT,zP,zR,zt,hk,kp63,evS,stE,auS,Nat.reduceAdd])
 by_cases h1:e.now < W.now
 ·have c1:decide (e.now < W.now)=true:=decide_eq_true h1
  have hF:zD7 W e=none:=by unfold zD7; rw [if_pos h1]
  (refine zG1 hctr (by rw [hP]; rfl) rs63_1 [] (ensure_type_of% (Cmp.of (by simp (maxSteps := 1000000) only [qK, qO, qP, qQ, qR, qS, qV, qp, ev, qy, qz, zD, zM, ↓reduceIte, reduceCtorEq, Nat.reduceEqDiff, zt, cE, jA, jC, jD, jE, jN, hP, c1]; rfl)) "" Cmp.mk) (by kernel_rfl) (by kernel_rfl) (by first | exact zA2 _ | kernel_rfl) (by kernel_rfl) (by rfl) (by rfl) (by first | exact zA0 _ | rfl) (by rfl) ?_ ?_; rotate_left; refine zB0 hctr (rs := res63) true 300 _ _ _ ?_; simp (maxSteps := 1000000) only [VT, jf, qE, qF, qG, qH, qI, qK, qO, ev, qy, qz, zG, zI, zJ, TE.sv, ↓reduceIte, reduceCtorEq, Nat.reduceEqDiff, Nat.reduceAdd, Nat.reduceLT, zP, zQ, zR, zV, zt, jN, jO, hk, res63, kp63, Nat.reduceAdd]; rotate_left; simp (maxSteps := 1000000) only [qK, qO, qP, qQ, qR, qS, qV, qp, ev, qy, qz, zD, zM, ↓reduceIte, reduceCtorEq, Nat.reduceEqDiff, zT, zn, zt, jD, jE, jN, jP, jQ, jR, jS, jT, hP, c1])
  exact fin W false 1 _ false (by rw [hF]; rfl) (by rw [hF]; rfl) rfl rfl rfl
 have c1:decide (e.now < W.now)=false:=decide_eq_false h1
 by_cases h2:1099511627776 < e.now
 ·have c2:decide (1099511627776 < e.now)=true:=decide_eq_true h2
  have hF:zD7 W e=none:=by unfold zD7; rw [if_neg h1,if_pos h2]
  (refine zG1 hctr (by rw [hP]; rfl) rs63_1 [] (ensure_type_of% (Cmp.of (by simp (maxSteps := 1000000) only [qK, qO, qP, qQ, qR, qS, qV, qp, ev, qy, qz, zD, zM, ↓reduceIte, reduceCtorEq, Nat.reduceEqDiff, zt, cE, jA, jC, jD, jE, jN, hP, c1, c2]; rfl)) "" Cmp.mk) (by kernel_rfl) (by kernel_rfl) (by first | exact zA2 _ | kernel_rfl) (by kernel_rfl) (by rfl) (by rfl) (by first | exact zA0 _ | rfl) (by rfl) ?_ ?_; rotate_left; refine zB0 hctr (rs := res63) true 300 _ _ _ ?_; simp (maxSteps := 1000000) only [VT, jf, qE, qF, qG, qH, qI, qK, qO, ev, qy, qz, zG, zI, zJ, TE.sv, ↓reduceIte, reduceCtorEq, Nat.reduceEqDiff, Nat.reduceAdd, Nat.reduceLT, zP, zQ, zR, zV, zt, jN, jO, hk, res63, kp63, Nat.reduceAdd]; rotate_left; simp (maxSteps := 1000000) only [qK, qO, qP, qQ, qR, qS, qV, qp, ev, qy, qz, zD, zM, ↓reduceIte, reduceCtorEq, Nat.reduceEqDiff, zT, zn, zt, jD, jE, jN, jP, jQ, jR, jS, jT, hP, c1, c2])
  exact fin W false 1 _ false (by rw [hF]; rfl) (by rw [hF]; rfl) rfl rfl rfl
 have c2:decide (1099511627776 < e.now)=false:=decide_eq_false h2
 have hF1:∀ {r},(match zF8 Z e.lost with
  | none=>none
  | some s =>
   if e.kind=2 then (if e.lost.length=1 then some { W with X:=s,now:=e.now } else none)
   else if e.kind=1 then
    (if zP9 W.tn e=false then none
     else if e.ans.st=0 then none
     else if eqAn e.ans noMem=true then (if zK2 e.cmd (zA9 s e.now e.cmd W.most).2.st=true then some ⟨s,e.now,zJ0 W.tn e.conn (e.seq,e.idx),W.most⟩ else none)
     else if eqAn e.ans (zA9 s e.now e.cmd W.most).2=true then some ⟨(zA9 s e.now e.cmd W.most).1,e.now,zJ0 W.tn e.conn (e.seq,e.idx),W.most⟩ else none)
   else none)=r→zD7 W e=r:=fun h=>by unfold zD7; rw [if_neg h1,if_neg h2,hZ]; exact h
 (refine zG1 hctr (by rw [hP]; rfl) rs63_1 [] (ensure_type_of% (Cmp.of (by simp (maxSteps := 1000000) only [qK, qO, qP, qQ, qR, qS, qV, qp, ev, qy, qz, zD, zM, ↓reduceIte, reduceCtorEq, Nat.reduceEqDiff, zt, cE, jA, jC, jD, jE, jN, hP, c1, c2]; rfl)) "" Cmp.mk) (by kernel_rfl) (by kernel_rfl) (by first | exact zA2 _ | kernel_rfl) (by kernel_rfl) (by rfl) (by rfl) (by first | exact zA0 _ | rfl) (by rfl) ?_ ?_; rotate_left; refine zB0 hctr (rs := res63) true 300 _ _ _ ?_; simp (maxSteps := 1000000) only [VT, jg, qH, qI, qK, qO, qP, qV, ev, qw, qy, zD, zG, zI, zJ, zM, ↓reduceIte, reduceCtorEq, Nat.reduceEqDiff, Nat.reduceAdd, Nat.reduceLT, zP, zQ, zR, zW, zt, jN, jO, hP, hk, res63, kp63, goC, Nat.reduceAdd]; rotate_left; simp (maxSteps := 1000000) only [qK, qO, qP, qQ, qR, qS, qV, qp, ev, qy, qz, zD, zM, ↓reduceIte, reduceCtorEq, Nat.reduceEqDiff, zT, zn, zt, jD, jE, jN, jP, jQ, jR, jS, jT, hP, c1, c2])
 refine zE5 rfl (.g [.rw 3 Z.items.length,.i .u64 Z.cas,.i .i64 Z.flush]) (zF _ (owE Z.items)) (by rw [← hZ]; exact alive_h (mu:=false) (N:=3) e.now hP rfl rfl (by show 1 < 3; decide) (by have:=hG.len; omega) (fun q=>by rw [zC7]; show (3≤q∧q < 3+1) ↔ q=3; omega) (by rw [hn0]; decide) rfl (fun q h=>zC3 h)) (by rw [zC7]; omega) (by simp) ?_
 (refine zB0 hctr (rs:=res63) true 300 _ _ _ ?_; simp (maxSteps:=1000000) only [VT,qH,qI,qJ,qK,qN,qO,qP,qV,qe,q0t,qu,qv,ev,qy,qz,zC,zD,zE,zF,zG,zI,zJ,zM,↓reduceIte,reduceCtorEq,Nat.reduceEqDiff,Nat.reduceAdd,Nat.reduceLT,zP,zQ,zR,zt,jN,hP,hk,kp63,Nat.reduceAdd])
 have hZs:Sorted Z.items:=by rw [← hZ]; exact zD6 _ hG.sorted
 have hZl:Z.items.length≤1000000:=by have:=zR3 W.X e.now; rw [hZ] at this; have:=hG.len; omega
 have hZb:∀ x∈Z.items,x∈W.X.items:=fun x hx=>zU8 (by rw [hZ]; exact hx)
 refine zS1 (ι:={ p:Nat × St // p.1≤ln∧zF8 Z (e.lost.take p.1)=some p.2 }) (fun p=>goS p.1.1 la ln lc) (fun p=>goE W b e la ln lc p.1.2) (fun p=>ln - p.1.1) ⟨(0,Z),Nat.zero_le _,rfl⟩ (zH6 ⟨rfl,rfl,rfl,rfl,rfl,rfl,trivial⟩) rfl ?_
 rintro ⟨⟨i,Y⟩,hi,hY⟩ D dP dS dw dn dr dk ddf dPan dRet hX hJ
 have hP0:=hP; have hk0:=hk; have hctr0:=hctr; have hn00:=hn0; have hEC0:=hEC
 have hi:i≤ln:=hi
 have hY:zF8 Z (e.lost.take i)=some Y:=hY
 have hP:D.P=Tryz.prog:=by rw [dP]; exact hP0
 have hk:D.kp=kp63:=by rw [dk]; exact hk0
 have hDS:D.S=fun q=>q=g:=by rw [dS]; exact hS
 have hDw:D.w0=w:=by rw [dw]; exact hw
 have hn0:D.n0=2:=by rw [dn]; exact hn00
 have hlkD:∀ w',Upd D.S D.w0 w'→MapAt w' b W.tn:=fun w' hu=>hlk w' (by rw [← dS,← dw]; exact hu)
 have hctr:zE4 D (goC W b e la ln lc):=goC_ok hP hlkD
 obtain ⟨yb,yl,yc,yf,ys⟩:=zO6 hY
 have hYs:=ys hZs
 have dFin:∀ (W':Au) (ok:Bool) (N:Nat) (en:List EN) (mu:Bool),(zD7 W e).isSome=ok→(zD7 W e).getD W=W'→W'.tn=W.tn→zD en 0=some (stE (.rw N W'.X.items.length) W' b)→zD en N=some ⟨(33,0,rowQ W'.X.items.length),zB6 itS W'.X.items,mu⟩→Fin D res63 (.c (.b ok)) en:=fun W' ok N en mu q1 q2 q3 q4 q5 ρ a w' hw hn hwf hd hr=>dRet _ _ (fin W' ok N en mu q1 q2 q3 q4 q5 ρ a w' (hw.toC dS.symm dw.symm dr.symm dn.symm) (by rw [← dn]; exact hn) hwf (hd.trans ddf) (fun fn h=>by rw [← dP]; exact hr fn h))
 show Run D _ _ (goS i la ln lc) (goE W b e la ln lc Y)
 by_cases hin:i < ln
 ·have q1:decide ((i:Int) < (ln:Int))=true:=decide_eq_true (by omega)
  have p0:(0:Int)≤(i:Int):=by omega
  have p1:(i:Int) < (ln:Int):=by omega
  have p3:IntKind.i64.wrap ((i:Int)+1)=((i+1:Nat):Int):=by rw [IntWalk.i64_in _ (by omega)]; rfl
  obtain ⟨key,hkey⟩:∃ key,e.lost[i]?=some key:=⟨_,List.getElem?_eq_getElem (by omega)⟩
  obtain ⟨lg,lo,hla,hlgs,hcell⟩:=hK i key hkey
  subst hla
  have hrk:D.rd lg (lo+i) 1=some [.s key]:=zY9 (vs:=[.string ⟨key.toArray⟩]) (fun w' hu j v hv=>by
   match j with
   | 0 =>
    simp only [List.getElem?_cons_zero,Option.some.injEq] at hv; subst hv
    rw [hDS,hDw] at hu
    rw [Nat.add_zero,hu.cell (p:=⟨lg,lo+i,none⟩) hlgs (show ¬ lg=g from hlg ⟨lg,lo,none⟩ rfl)]; exact hcell
   | _+1=>simp at hv) rfl
  have htk:e.lost.take (i+1)=e.lost.take i++[key]:=by rw [List.take_add_one,hkey]; rfl
  (refine zB0 hctr (rs:=res63) true 300 _ _ _ ?_; simp (maxSteps:=1000000) only [VT,jf,qH,qI,qK,qO,qP,qR,qS,qX,ev,qw,qy,qz,zA,zB,zD,zI,zJ,zM,↓reduceIte,reduceCtorEq,Nat.reduceEqDiff,Nat.reduceLT,zP,zQ,zR,zT,zV,zh,zo,hP,hk,res63,kp63,goC,evS,stE,auS,goS,goE,p0,p1,Nat.mul_one,hrk])
  have hd9:zF8 Z (e.lost.take (i+1))=zQ5 Y key:=by rw [htk]; exact drops_snoc hY
  refine zE5 rfl (.t [.g [.rw 5 (zG6 Y key).length,.i .u64 Y.cas,.i .i64 Y.flush],.c (.b (isF Y.items key))]) (zF _ (owE (zG6 Y key))) (dropc_h (M:=3) (N:=5) key hP hYs (by omega) rfl rfl (fun q=>by rw [zC7]; show (5≤q∧q < 5+1) ↔ q=5; omega) (by rw [hn0]; decide) rfl (fun q h=>zC3 h)) (by rw [zC7]; omega) (by simp) ?_
  cases his:isF Y.items key with
  | false =>
   have hdn:zQ5 Y key=none:=by unfold zQ5; rw [his]; rfl
   have hF:zD7 W e=none:=hF1 (by
    have h9:zF8 Z e.lost=none:=by
     have:=drops_none (ms:=e.lost.drop (i+1)) (hd9.trans hdn)
     rwa [List.take_append_drop] at this
    rw [h9])
   (refine zB0 hctr (rs:=res63) true 300 _ _ _ ?_; simp (maxSteps:=1000000) only [VT,jf,qE,qF,qG,qH,qI,qJ,qK,qO,qT,qh,q0t,qu,qv,ev,qy,qz,zC,zD,zE,zF,zG,zI,zJ,TE.sv,zM,↓reduceIte,reduceCtorEq,Nat.reduceEqDiff,Nat.reduceAdd,Nat.reduceLT,zP,zQ,zR,zV,zW,zt,jN,hP,hk,res63,kp63,Nat.reduceAdd])
   exact dFin W false 1 _ false (by rw [hF]; rfl) (by rw [hF]; rfl) rfl rfl rfl
  | true =>
   have hds:zQ5 Y key=some ⟨zG6 Y key,Y.cas,Y.flush⟩:=by unfold zQ5 zG6; rw [if_pos his,if_pos his]
   (refine zB0 hctr (rs:=res63) true 300 _ _ _ ?_; simp (maxSteps:=1000000) only [VT,jg,qH,qI,qJ,qK,qO,qR,qS,qT,qh,q0t,qu,qv,ev,qy,qz,zC,zD,zE,zF,zG,zI,zJ,TE.sv,zM,↓reduceIte,reduceCtorEq,Nat.reduceEqDiff,Nat.reduceAdd,Nat.reduceLT,zP,zQ,zR,zV,zW,zt,jN,hP,hk,res63,kp63,Nat.reduceAdd,p3])
   refine zM3 (f:=fun q=>if q=3 then 5 else q) (enK:=goE W b e (some ⟨lg,lo,none⟩) ln lc ⟨zG6 Y key,Y.cas,Y.flush⟩) (slK:=goS (i+1) (some ⟨lg,lo,none⟩) ln lc) ⟨fun q hq=>by rw [hn0] at hq; show (if q=3 then 5 else q)=q; rw [if_neg (by omega)],by rw [hn0]; show 2≤5; decide⟩ (fun p q hp hq h=>?_) ?_ ?_ (hJ ⟨(i+1,⟨zG6 Y key,Y.cas,Y.flush⟩),by omega,by show zF8 Z (e.lost.take (i+1))=some _; rw [hd9,hds]⟩ _ (by show ln - (i+1) < ln - i; omega) (fun d v h=>h))
   ·have hp:p < 5:=hp
    have hq:q < 5:=hq
    split at h <;> split at h <;> omega
   ·exact ⟨⟨_,rfl,fun ρ=>rfl,auS_wf (by show 1 < 5; decide)⟩,⟨_,rfl,fun ρ=>(zC0 _ _).trans (zC0 _ _).symm,zF4 _ _⟩,⟨_,rfl,fun ρ=>rfl,zR8 _ _ _ _ _⟩,⟨_,rfl,fun ρ=>(zC0 _ _).trans (zC0 _ _).symm,zF4 _ _⟩,⟨_,rfl,fun ρ=>rfl,zC8 (by show 3 < 5; decide)⟩,trivial⟩
   ·refine ⟨⟨?_,_,rfl,fun ρ=>rfl⟩,⟨?_,_,rfl,fun ρ=>rfl⟩,⟨?_,_,rfl,fun ρ=>rfl⟩,⟨?_,_,rfl,fun ρ=>rfl⟩,⟨?_,_,rfl,fun ρ=>rfl⟩,⟨?_,_,rfl,fun ρ=>rfl⟩,trivial⟩
    all_goals simp [SV.wf,SC.wf,goE]
 have q1:decide ((i:Int) < (ln:Int))=false:=decide_eq_false (by omega)
 have hYa:zF8 Z e.lost=some Y:=by rw [← hY,List.take_of_length_le (by omega)]
 have hF2:∀ {r},(if e.kind=2 then (if e.lost.length=1 then some { W with X:=Y,now:=e.now } else none)
   else if e.kind=1 then
    (if zP9 W.tn e=false then none
     else if e.ans.st=0 then none
     else if eqAn e.ans noMem=true then (if zK2 e.cmd (zA9 Y e.now e.cmd W.most).2.st=true then some ⟨Y,e.now,zJ0 W.tn e.conn (e.seq,e.idx),W.most⟩ else none)
     else if eqAn e.ans (zA9 Y e.now e.cmd W.most).2=true then some ⟨(zA9 Y e.now e.cmd W.most).1,e.now,zJ0 W.tn e.conn (e.seq,e.idx),W.most⟩ else none)
   else none)=r→zD7 W e=r:=fun h=>hF1 (by rw [hYa]; exact h)
 (refine zB0 hctr (rs:=res63) true 300 _ _ _ ?_; simp (maxSteps:=1000000) only [VT,jg,qH,qI,qK,qR,qS,ev,qy,zH,zI,zJ,↓reduceIte,reduceCtorEq,Nat.reduceEqDiff,Nat.reduceLT,zP,zR,zW,hk,res63,kp63,evS,stE,auS,goS,goE,q1])
 refine hX rfl rfl ?_
 have hP:=hP0; have hk:=hk0; have hctr:=hctr0; have hn0:=hn00
 by_cases k2:e.kind=2
 ·have d2:(e.kind == 2)=true:=by simpa using k2
  by_cases l1:e.lost.length=1
  ·have m1:((ln:Int) != 1)=false:=by rw [bne_eq_false_iff_eq]; omega
   have hF:zD7 W e=some { W with X:=Y,now:=e.now }:=hF2 (by rw [if_pos k2,if_pos l1])
   (refine zB0 hctr (rs:=res63) true 300 _ _ _ ?_; simp (maxSteps:=1000000) only [VT,jf,jg,qH,qI,qK,qN,qO,qP,qR,qS,qV,qe,ev,qy,qz,zD,zI,zJ,zM,↓reduceIte,reduceCtorEq,Nat.reduceEqDiff,Nat.reduceLT,zP,zQ,zR,zV,zW,zt,zu,hP,hk,res63,kp63,d2,m1])
   (refine zG1 hctr (by rw [hP]; rfl) rs63_29 [] (ensure_type_of% (Cmp.of (by simp (maxSteps := 1000000) only [qK, qO, qP, qQ, qV, q0t, qu, qv, ev, qy, zA, zB, zC, zD, zE, zF, zG, zM, ↓reduceIte, reduceCtorEq, Nat.reduceEqDiff, Nat.reduceAdd, zP, zt, zu, cE, jA, jC, jD, jH, jN, hP, Nat.reduceAdd]; rfl)) "" Cmp.mk) (by kernel_rfl) (by kernel_rfl) (by first | exact zA2 _ | kernel_rfl) (by kernel_rfl) (by rfl) (by rfl) (by first | exact zA0 _ | rfl) (by rfl) ?_ ?_; rotate_left; refine zB0 hctr (rs := res63) true 300 _ _ _ ?_; simp (maxSteps := 1000000) only [VT, qE, qF, qG, qH, qI, qK, qO, ev, qy, qz, zG, zI, zJ, TE.sv, ↓reduceIte, reduceCtorEq, Nat.reduceEqDiff, Nat.reduceAdd, Nat.reduceLT, zP, zQ, zR, zt, jN, jO, hk, res63, kp63, Nat.reduceAdd]; rotate_left; simp (maxSteps := 1000000) only [qK, qO, qP, qQ, qV, q0t, qu, qv, ev, qy, zA, zB, zC, zD, zE, zG, zM, ↓reduceIte, reduceCtorEq, Nat.reduceEqDiff, Nat.reduceAdd, Nat.reduceSub, zP, zT, zn, zt, zu, jD, jH, jN, jP, jQ, jR, jS, jT, hP, Nat.reduceAdd])
   exact fin { W with X:=Y,now:=e.now } true 3 _ true (by rw [hF]; rfl) (by rw [hF]; rfl) rfl rfl rfl
  ·have m1:((ln:Int) != 1)=true:=by rw [bne_iff_ne]; omega
   have hF:zD7 W e=none:=hF2 (by rw [if_pos k2,if_neg l1])
   (refine zB0 hctr (rs:=res63) true 300 _ _ _ ?_; simp (maxSteps:=1000000) only [VT,jf,qE,qF,qG,qH,qI,qK,qN,qO,qP,qR,qS,qV,qe,ev,qy,qz,zD,zI,zJ,TE.sv,zM,↓reduceIte,reduceCtorEq,Nat.reduceEqDiff,Nat.reduceLT,zP,zQ,zR,zV,zt,zu,hP,hk,res63,kp63,d2,m1])
   exact fin W false 1 _ false (by rw [hF]; rfl) (by rw [hF]; rfl) rfl rfl rfl
 have d2:(e.kind == 2)=false:=by simpa using k2
 by_cases k1:e.kind=1
 rotate_left
 ·have d1:(e.kind == 1)=false:=by simpa using k1
  have hF:zD7 W e=none:=hF2 (by rw [if_neg k2,if_neg k1])
  (refine zB0 hctr (rs:=res63) true 300 _ _ _ ?_; simp (maxSteps:=1000000) only [VT,jg,qE,qF,qG,qH,qI,qK,qO,qP,qR,qS,qV,ev,qy,qz,zD,zI,zJ,TE.sv,zM,↓reduceIte,reduceCtorEq,Nat.reduceEqDiff,Nat.reduceLT,zP,zQ,zR,zW,zu,hP,hk,res63,kp63,d2,d1])
  exact fin W false 1 _ false (by rw [hF]; rfl) (by rw [hF]; rfl) rfl rfl rfl
 have d1:(e.kind == 1)=true:=by simpa using k1
 obtain ⟨R,hR⟩:∃ R,zA9 Y e.now e.cmd W.most=R:=⟨_,rfl⟩
 have hGY:Good Y:=⟨hYs,by omega,fun x hx=>hG.bd x (hZb x (yb x hx))⟩
 have hF3:∀ {r},(if zP9 W.tn e=false then none
     else if e.ans.st=0 then none
     else if eqAn e.ans noMem=true then (if zK2 e.cmd R.2.st=true then some ⟨Y,e.now,zJ0 W.tn e.conn (e.seq,e.idx),W.most⟩ else none)
     else if eqAn e.ans R.2=true then some ⟨R.1,e.now,zJ0 W.tn e.conn (e.seq,e.idx),W.most⟩ else none)=r→zD7 W e=r:=fun h=>hF2 (by rw [if_neg k2,if_pos k1,hR]; exact h)
 (refine zB0 hctr (rs:=res63) true 300 _ _ _ ?_; simp (maxSteps:=1000000) only [VT,jf,jg,qH,qI,qK,qO,qP,qR,qS,qV,ev,qy,qz,zD,zI,zJ,zM,↓reduceIte,reduceCtorEq,Nat.reduceEqDiff,Nat.reduceLT,zP,zQ,zR,zV,zW,zu,hP,hk,res63,kp63,d2,d1])
 (refine zG1 hctr (by rw [hP]; rfl) rs63_18 [jB (fun N => .t [.g [.rw N R.1.items.length, .i .u64 R.1.cas, .i .i64 R.1.flush], .g (anS R.2)]) (fun _ => owE R.1.items)] (ensure_type_of% (Cmp.of (by simp (maxSteps := 1000000) only [qA, qK, qO, qP, qQ, qV, qh, q0t, qu, qv, ev, qw, qy, zA, zB, zC, zD, zE, zF, zG, TE.sv, zM, ↓reduceIte, reduceCtorEq, Nat.reduceEqDiff, Nat.reduceAdd, zP, zt, cE, jA, jB, jC, jD, jF, jG, jH, jJ, jK, jL, jM, jN, hP, goC, anS, Nat.reduceAdd]; rfl)) "" Cmp.mk) (by kernel_rfl) (by kernel_rfl) (by first | exact zA2 _ | kernel_rfl) (by kernel_rfl) (by rfl) (by rfl) (by first | exact zA0 _ | rfl) (by rfl) ?_ ?_; rotate_left; refine zB0 hctr (rs := res63) true 300 _ _ _ ?_; simp (maxSteps := 1000000) only [VT, qH, qI, qK, qO, qP, qT, ev, qw, qy, zA, zB, zD, zG, zI, zJ, zM, ↓reduceIte, reduceCtorEq, Nat.reduceEqDiff, Nat.reduceAdd, Nat.reduceLT, zP, zQ, zR, zT, zt, jN, jO, hP, hk, res63, kp63, goC, rowNx, evS, stE, auS, Nat.reduceAdd]; rotate_left; simp (maxSteps := 1000000) only [qK, qO, qP, qQ, qV, qh, q0t, qu, qv, ev, qw, qy, zA, zB, zC, zD, zE, zG, TE.sv, zM, ↓reduceIte, reduceCtorEq, Nat.reduceEqDiff, Nat.reduceAdd, Nat.reduceSub, Nat.reduceLeDiff, zP, zR, zS, zT, zn, zt, jD, jF, jG, jH, jN, jP, jQ, jR, jS, jT, jU, hP, Nat.reduceAdd])
 ·exact modApc_h (M:=3) (N:=5) R hR hP hEC hGY hG.cd rfl rfl (mkC_head (by simp)) (by rw [hn0]; decide) rfl (fun q hq=>by match q with | 0=>rfl | 1=>rfl | 2=>rfl | 3=>rfl | 4=>rfl | 5=>exact absurd rfl hq | _+6=>rfl)
 cases hnx:zP9 W.tn e with
 | false =>
  have hF:zD7 W e=none:=hF3 (by rw [if_pos hnx])
  simp (maxSteps:=1000000) only [VT,jf,qE,qF,qG,qH,qI,qK,qO,ev,qy,qz,zI,zJ,TE.sv,↓reduceIte,reduceCtorEq,Nat.reduceEqDiff,Nat.reduceLT,zP,zR,zV,zW,hk,kp63]
  exact fin W false 1 _ false (by rw [hF]; rfl) (by rw [hF]; rfl) rfl rfl rfl
 | true =>
 by_cases hst:e.ans.st=0
 ·have s0:(e.ans.st == 0)=true:=by simpa using hst
  have hF:zD7 W e=none:=hF3 (by rw [if_neg (by rw [hnx]; simp),if_pos hst])
  simp (maxSteps:=1000000) only [VT,jf,jg,qE,qF,qG,qH,qI,qK,qO,qP,qR,qS,qV,ev,qy,qz,zD,zI,zJ,TE.sv,zM,↓reduceIte,reduceCtorEq,Nat.reduceEqDiff,Nat.reduceLT,zP,zQ,zR,zV,zW,zt,zu,hP,hk,kp63,s0]
  exact fin W false 1 _ false (by rw [hF]; rfl) (by rw [hF]; rfl) rfl rfl rfl
 have s0:(e.ans.st == 0)=false:=by simpa using hst
 have hF4:∀ {r},(if eqAn e.ans noMem=true then (if zK2 e.cmd R.2.st=true then some (⟨Y,e.now,zJ0 W.tn e.conn (e.seq,e.idx),W.most⟩:Au) else none)
     else if eqAn e.ans R.2=true then some ⟨R.1,e.now,zJ0 W.tn e.conn (e.seq,e.idx),W.most⟩ else none)=r→zD7 W e=r:=fun h=>hF3 (by rw [if_neg (by rw [hnx]; simp),if_neg hst]; exact h)
 cases hno:eqAn e.ans noMem with
 | true =>
  have hno':=hno
  simp (maxSteps:=1000000) only [qL,qM,eqAn,noMem,zA7,It.zero,anS] at hno'
  cases hlx:zK2 e.cmd R.2.st with
  | false =>
   have hF:zD7 W e=none:=hF4 (by rw [if_pos hno,if_neg (by rw [hlx]; simp)])
   simp (maxSteps:=1000000) only [VT,jf,jg,qE,qF,qG,qH,qI,qK,qL,qM,qO,qP,qR,qS,qT,qV,qf,qg,q0t,ev,qw,qy,qz,zA,zB,zC,zD,zI,zJ,TE.sv,zM,↓reduceIte,reduceCtorEq,Nat.reduceEqDiff,Nat.reduceLT,zP,zQ,zR,zV,zW,zt,zu,hP,hk,kp63,goC,rowLk,cdS,steq_an,s0,hno',hlx]
   exact fin W false 1 _ false (by rw [hF]; rfl) (by rw [hF]; rfl) rfl rfl rfl
  | true =>
   have hF:zD7 W e=some ⟨Y,e.now,zJ0 W.tn e.conn (e.seq,e.idx),W.most⟩:=hF4 (by rw [if_pos hno,if_pos hlx])
   simp (maxSteps:=1000000) only [VT,jf,jg,qH,qI,qK,qL,qM,qO,qP,qR,qS,qT,qV,qf,qg,q0t,ev,qw,qy,qz,zA,zB,zC,zD,zI,zJ,zM,↓reduceIte,reduceCtorEq,Nat.reduceEqDiff,Nat.reduceLT,zP,zQ,zR,zV,zW,zt,zu,hP,hk,kp63,goC,rowLk,cdS,steq_an,s0,hno',hlx]
   refine Run_still (b:=b) (f:=W.tn) (T:=80) 11 (by rw [hP]; rfl) (by kernel_rfl) hlk (by rw [hP]; exact lkT80) (by kernel_rfl) ?_
   simp (maxSteps:=1000000) only [VS,putD,List.take_succ_cons,List.take_zero,List.drop_succ_cons,List.drop_zero,qK,qO,qP,qQ,qV,qf,qg,q0t,ev,qy,zC,zD,zM,↓reduceIte,reduceCtorEq,Nat.reduceEqDiff,Nat.reduceLT,zR,zt,jN,hP]
   refine Run_mapput (b:=b) (f:=W.tn) (c:=e.conn) (v:=(e.seq,e.idx)) (by rw [hP]; exact lkT80) hlk rfl rfl rfl ?_
   rintro ρ1 w2 ⟨w1,hw1,hn1,hoth,hsz⟩ hup2 hM2 E hSame eS ew en er
   have finE:=fun en' N mu h4 h5=>go_fin (en:=en') (N:=N) (mu:=mu) (W':=⟨Y,e.now,zJ0 W.tn e.conn (e.seq,e.idx),W.most⟩) (hCx.sameQ hSame) hres63 hS hw hn0 (by rw [hr0]; exact hρ) hw1 (by simp) hup2 hM2 eS ew en er hbl hbg hF h4 h5
   have hP:=hSame.P.trans hP
   have hk:=hSame.kp.trans hk
   have hctr:zE4 E noC:=zE6 hP
   (refine zB0 hctr (rs:=res63) true 300 _ _ _ ?_; simp (maxSteps:=1000000) only [VT,zI,zJ,↓reduceIte,reduceCtorEq,Nat.reduceEqDiff,zP,zQ,hk,kp63])
   (refine zG1 hctr (by rw [hP]; rfl) rs63_29 [] (ensure_type_of% (Cmp.of (by simp (maxSteps := 1000000) only [qK, qO, qP, qQ, qV, q0t, qu, qv, ev, qy, zA, zB, zC, zD, zE, zF, zG, zM, ↓reduceIte, reduceCtorEq, Nat.reduceEqDiff, Nat.reduceAdd, zP, zt, zu, cE, jA, jC, jD, jH, jN, hP, Nat.reduceAdd]; rfl)) "" Cmp.mk) (by kernel_rfl) (by kernel_rfl) (by first | exact zA2 _ | kernel_rfl) (by kernel_rfl) (by rfl) (by rfl) (by first | exact zA0 _ | rfl) (by rfl) ?_ ?_; rotate_left; refine zB0 hctr (rs := res63) true 300 _ _ _ ?_; simp (maxSteps := 1000000) only [VT, qE, qF, qG, qH, qI, qK, qO, ev, qy, qz, zG, zI, zJ, TE.sv, ↓reduceIte, reduceCtorEq, Nat.reduceEqDiff, Nat.reduceAdd, Nat.reduceLT, zP, zQ, zR, zt, jN, jO, hk, res63, kp63, Nat.reduceAdd]; rotate_left; simp (maxSteps := 1000000) only [qK, qO, qP, qQ, qV, q0t, qu, qv, ev, qy, zA, zB, zC, zD, zE, zG, zM, ↓reduceIte, reduceCtorEq, Nat.reduceEqDiff, Nat.reduceAdd, Nat.reduceSub, zP, zT, zn, zt, zu, jD, jH, jN, jP, jQ, jR, jS, jT, hP, Nat.reduceAdd])
   exact finE _ 3 true rfl rfl
 | false =>
  have hno':=hno
  simp (maxSteps:=1000000) only [qL,qM,eqAn,noMem,zA7,It.zero,anS] at hno'
  cases hea:eqAn e.ans R.2 with
  | false =>
   have hea':=hea
   simp (maxSteps:=1000000) only [qL,qM,eqAn,anS] at hea'
   have hF:zD7 W e=none:=hF4 (by rw [if_neg (by rw [hno]; simp),if_neg (by rw [hea]; simp)])
   simp (maxSteps:=1000000) only [VT,jf,jg,qE,qF,qG,qH,qI,qK,qL,qM,qO,qP,qR,qS,qV,qf,qg,q0t,ev,qy,qz,zA,zB,zC,zD,zI,zJ,TE.sv,zM,↓reduceIte,reduceCtorEq,Nat.reduceEqDiff,Nat.reduceLT,zP,zQ,zR,zV,zW,zt,zu,hP,hk,kp63,steq_an,s0,hno',hea']
   exact fin W false 1 _ false (by rw [hF]; rfl) (by rw [hF]; rfl) rfl rfl rfl
  | true =>
   have hea':=hea
   simp (maxSteps:=1000000) only [qL,qM,eqAn,anS] at hea'
   have hF:zD7 W e=some ⟨R.1,e.now,zJ0 W.tn e.conn (e.seq,e.idx),W.most⟩:=hF4 (by rw [if_neg (by rw [hno]; simp),if_pos hea])
   simp (maxSteps:=1000000) only [VT,jg,qH,qI,qJ,qK,qL,qM,qO,qP,qR,qS,qV,qf,qg,q0t,qu,qv,ev,qy,qz,zA,zB,zC,zD,zE,zG,zI,zJ,zM,↓reduceIte,reduceCtorEq,Nat.reduceEqDiff,Nat.reduceAdd,Nat.reduceLT,zP,zQ,zR,zV,zW,zt,zu,hP,hk,kp63,Nat.reduceAdd,steq_an,s0,hno',hea']
   refine Run_still (b:=b) (f:=W.tn) (T:=80) 11 (by rw [hP]; rfl) (by kernel_rfl) hlk (by rw [hP]; exact lkT80) (by kernel_rfl) ?_
   simp (maxSteps:=1000000) only [VS,putD,List.take_succ_cons,List.take_zero,List.drop_succ_cons,List.drop_zero,qK,qO,qP,qQ,qV,qf,qg,q0t,ev,qy,zC,zD,zM,↓reduceIte,reduceCtorEq,Nat.reduceEqDiff,Nat.reduceLT,zR,zt,jN,hP]
   refine Run_mapput (b:=b) (f:=W.tn) (c:=e.conn) (v:=(e.seq,e.idx)) (by rw [hP]; exact lkT80) hlk rfl rfl rfl ?_
   rintro ρ1 w2 ⟨w1,hw1,hn1,hoth,hsz⟩ hup2 hM2 E hSame eS ew en er
   have finE:=fun en' N mu h4 h5=>go_fin (en:=en') (N:=N) (mu:=mu) (W':=⟨R.1,e.now,zJ0 W.tn e.conn (e.seq,e.idx),W.most⟩) (hCx.sameQ hSame) hres63 hS hw hn0 (by rw [hr0]; exact hρ) hw1 (by simp) hup2 hM2 eS ew en er hbl hbg hF h4 h5
   have hP:=hSame.P.trans hP
   have hk:=hSame.kp.trans hk
   have hctr:zE4 E noC:=zE6 hP
   (refine zB0 hctr (rs:=res63) true 300 _ _ _ ?_; simp (maxSteps:=1000000) only [VT,zI,zJ,↓reduceIte,reduceCtorEq,Nat.reduceEqDiff,zP,zQ,hk,kp63])
   (refine zG1 hctr (by rw [hP]; rfl) rs63_29 [] (ensure_type_of% (Cmp.of (by simp (maxSteps := 1000000) only [qK, qO, qP, qQ, qV, q0t, qu, qv, ev, qy, zA, zB, zC, zD, zE, zF, zG, zM, ↓reduceIte, reduceCtorEq, Nat.reduceEqDiff, Nat.reduceAdd, zP, zt, zu, cE, jA, jC, jD, jH, jN, hP, Nat.reduceAdd]; rfl)) "" Cmp.mk) (by kernel_rfl) (by kernel_rfl) (by first | exact zA2 _ | kernel_rfl) (by kernel_rfl) (by rfl) (by rfl) (by first | exact zA0 _ | rfl) (by rfl) ?_ ?_; rotate_left; refine zB0 hctr (rs := res63) true 300 _ _ _ ?_; simp (maxSteps := 1000000) only [VT, qE, qF, qG, qH, qI, qK, qO, ev, qy, qz, zG, zI, zJ, TE.sv, ↓reduceIte, reduceCtorEq, Nat.reduceEqDiff, Nat.reduceAdd, Nat.reduceLT, zP, zQ, zR, zt, jN, jO, hk, res63, kp63, Nat.reduceAdd]; rotate_left; simp (maxSteps := 1000000) only [qK, qO, qP, qQ, qV, q0t, qu, qv, ev, qy, zA, zB, zC, zD, zE, zG, zM, ↓reduceIte, reduceCtorEq, Nat.reduceEqDiff, Nat.reduceAdd, Nat.reduceSub, zP, zT, zn, zt, zu, jD, jH, jN, jP, jQ, jR, jS, jT, hP, Nat.reduceAdd])
   exact finE _ 5 true rfl rfl
end Go.Proofs.YtfpeholdlkfmoaaGreatDoor
/- A map made; where a call ended, told anew. What run knows of the world. -/
namespace Go.Proofs.YtfpeholdlkfmoaaGreatDoor
set_option linter.unusedSimpArgs false
set_option linter.unusedVariables false
open Go.RowKit Go.ChangeMaps
set_option maxRecDepth 100000
section
variable {C:Cx} {nt:Nat} {sl:List (Nat × SV)} {en:List EN} {k:List KI}
theorem put_tm {a:Act} {d0 d:Nat} {v:Value} (h:d0 < a.tmps.size):(a.put (some d0) v).tmps[d]?=if d=d0 then some v else a.tmps[d]?:=by
 show (a.tmps.setIfInBounds d0 v)[d]?=_
 rw [Array.getElem?_setIfInBounds]
 by_cases hd:d=d0
 ·subst hd; rw [if_pos rfl,if_pos rfl,if_pos h]
 ·rw [if_neg (fun h=>hd h.symm),if_neg hd]
theorem put_sz {a:Act} {d:Option Nat} {v:Value}:(a.put d v).tmps.size=a.tmps.size:=by
 cases d with
 | none=>rfl
 | some d=>show (a.tmps.setIfInBounds d v).size=_; simp
theorem put_df {a:Act} {d:Option Nat} {v:Value}:(a.put d v).defers=a.defers:=by cases d <;> rfl
theorem zS6 {S:Nat→Prop} {ρ ρ':Nat→RE} {en en':List EN} {a:Act} {w w':World} {d0:Nat} {v0:SV} {s:List (Nat × SV)} (hr:Rep C ρ nt sl en a w) (hat:At S ρ' en' w') (hd0:d0 < nt) (hv0:v0.wf (· < en'.length))
  (hs:pkS ρ ρ' en'.length sl s):Wt C.df ρ' nt ((d0,v0) :: s) en' (a.put (some d0) (v0.den ρ')) w':=by
 refine ⟨hat.hp,hat.ho,hat.inj,fun d v hd=>?_,by rw [put_sz]; exact hr.sz,by rw [put_df]; exact hr.df⟩
 rw [put_tm (by rw [hr.sz]; exact hd0)]
 simp only [qy] at hd
 split at hd
 ·rename_i e; subst e
  simp only [Option.some.injEq] at hd; subst hd
  rw [if_pos rfl]; exact ⟨rfl,hv0⟩
 ·rename_i hne
  rw [if_neg (fun h=>hne h.symm)]
  obtain ⟨u,h1,h2,h3⟩:=zM7 hs d v hd
  rw [h2]
  exact ⟨(hr.tm d u h1).1,h3⟩
theorem Run_makemap {d:Nat} {t:TypeId} {ty:TypeId} {pos:String} {af:Array Edge} {all r:List Oper} (hd:d < nt)
  (h:∀ (b:Nat) (w1:World),Upd Non C.w0 w1∨True→MapAt w1 b (fun _=>none)→C.w0.heap.size≤b→∀ ρ w0,Hw C ρ (· < en.length) en w0→w1=w0.alloc (.map #[] 0)→∀ E:Cx,SameQ E C→E.S=wrB ρ en→E.w0=w1→E.n0=en.length→E.ρ0=ρ→Run E (.ops all r :: k) nt ((d,.c (.v (.map (some b)))) :: sl) en) :
  Run C (.ops all (⟨some d,.makeMap t none,ty,pos,af,none⟩ :: r) :: k) nt sl en:=by
 intro ρ a w hr
 rw [zH9]
 unfold wpList
 rw [if_pos (by simp [Region.wanted])]
 left
 unfold Oper.wp
 have hrun:(execOp a.eval ⟨some d,.makeMap t none,ty,pos,af,none⟩).run C.P w=.ok (.value (.map (some w.heap.size))) (w.alloc (.map #[] 0)):=by
  simp [execOp,Instr.makeMap,newObj,Result.andThen]
  rfl
 rw [hrun]
 simp only [Oper.upon]
 have hnew:=MapKept.heap_alloc w (.map #[] 0)
 have hwt:Wt C.df ρ nt ((d,.c (.v (.map (some w.heap.size)))) :: sl) en (a.put (some d) (.map (some w.heap.size))) (w.alloc (.map #[] 0)):=by
  refine ⟨fun q t' cells mu hq he=>?_,hr.hw.ho,hr.hw.inj,fun e v he=>?_,by rw [put_sz]; exact hr.sz,by rw [put_df]; exact hr.df⟩
  ·have g:=hr.hw.hp q t' cells mu hq he
   refine ⟨fun hl=>?_,g.wf,g.dead,g.non⟩
   have hb:=g.heap hl
   rw [hnew.2 _ (Array.getElem?_eq_some_iff.1 hb).1]
   exact hb
  ·rw [put_tm (by rw [hr.sz]; exact hd)]
   simp only [qy] at he
   split at he
   ·rename_i e'; subst e'
    simp only [Option.some.injEq] at he; subst he
    rw [if_pos rfl]; exact ⟨rfl,trivial⟩
   ·rename_i hne
    rw [if_neg (fun h=>hne h.symm)]
    exact hr.tm e v he
 have hM:MapAt (w.alloc (.map #[] 0)) w.heap.size (fun _=>none):=⟨#[],0,[],hnew.1,trivial,fun c=>rfl⟩
 have:=h w.heap.size (w.alloc (.map #[] 0)) (.inr trivial) hM hr.hw.up.size ρ w hr.hw rfl (cxW C ρ (w.alloc (.map #[] 0)) en) ⟨rfl,rfl,rfl,rfl⟩ rfl rfl rfl rfl ρ _ _ hwt.rep
 rw [show KQ (cxW C ρ (w.alloc (.map #[] 0)) en) (.ops all r :: k)=KQ C (.ops all r :: k) from zI5 (C:=C) (D:=cxW C ρ (w.alloc (.map #[] 0)) en) rfl rfl _,zH9] at this
 exact this
end
end Go.Proofs.YtfpeholdlkfmoaaGreatDoor
