/- The operations that only compute or read: what they come to in every world that fits. -/
import Derived.Test.YtfpeholdlkfmoaaGreatDoorBS00
import Derived.Deep.Frames
namespace Go.Proofs.YtfpeholdlkfmoaaGreatDoor
set_option linter.unusedSimpArgs false
set_option linter.unusedVariables false
open Go.RowKit
def zB {α:Type}:Nat→Nat→List α→Option (List α)
 | 0,n,l=>zA n l
 | _+1,_,[]=>none
 | o+1,n,_ :: l=>zB o n l
theorem zM4 {α:Type}:∀ {o n:Nat} {l r:List α},zB o n l=some r→r=(l.drop o).take n∧o+n≤l.length
 | 0,n,l,r,h=>by
  obtain ⟨h1,h2⟩:=zZ3 (by simpa [zB] using h)
  exact ⟨by simpa using h1,by omega⟩
 | o+1,n,[],r,h=>by simp [zB] at h
 | o+1,n,x :: l,r,h=>by
  obtain ⟨h1,h2⟩:=zM4 (o:=o) (n:=n) (l:=l) (r:=r) (by simpa [zB] using h)
  exact ⟨by simpa using h1,by simp; omega⟩
def qp:Bool→Option SV→Option SV→Option (Prop × SV)
 | true,some y,_=>some (True,y)
 | false,_,some z=>some (True,z)
 | _,_,_=>none
def qO:Option SV→Option (Prop × SV)
 | some v=>some (True,v)
 | none=>none
abbrev Rd:=Nat→Nat→Nat→Option (List SC)
def noRd:Rd:=fun _ _ _=>none
def qP (rd:Rd) (en:List EN):Option SV→Option TI→Option (Prop × SV)
 | some (.c (.v (.pointer (some ⟨b,o,none⟩)))),some ⟨sz,true,_,_,_,_,_,_⟩=>match rd b o sz with
  | some l=>some (True,.g l)
  | none=>none
 | some (.c (.v (.pointer (some ⟨b,o,none⟩)))),some ⟨_,false,_,_,_,_,_,_⟩=>match rd b o 1 with
  | some [x]=>some (True,.c x)
  | _=>none
 | some (.c (.p c o)),some ⟨sz,true,_,_,_,_,_,_⟩=>match zD en c with
  | some ⟨_,cells,_⟩=>match zB o sz cells with
   | some l=>some (True,.g l)
   | none=>none
  | none=>none
 | some (.c (.p c o)),some ⟨_,false,_,_,_,_,_,_⟩=>match zD en c with
  | some ⟨_,cells,_⟩=>match zD cells o with
   | some x=>some (True,.c x)
   | none=>none
  | none=>none
 | _,_=>none
def qQ:Option SV→Option (Prop × SV)
 | some (.c (.p c o))=>some (True,.c (.p c o))
 | some (.c (.v (.pointer (some a))))=>some (True,.c (.v (.pointer (some a))))
 | _=>none
def qL:SC→SC→Bool
 | .i _ a,.i _ b=>a == b
 | .s a,.s b=>a == b
 | .b a,.b b=>a == b
 | _,_=>false
def qM:List SC→List SC→Bool
 | [],[]=>true
 | x :: l,y :: m=>qL x y && qM l m
 | _,_=>false
def StEq (P:Program) (t:TypeId) (la lb:List SC):Prop:=P.eqGuardType P.depth t=false∧∀ (ρ:Nat→RE) (w:World),(Op.equal t (.agg (zC1 ρ la).toArray) (.agg (zC1 ρ lb).toArray)).run P w=.ok (qM la lb) w
def qR (P:Program) (op:BinOp) (t:TypeId):Option SV→Option SV→Option (Prop × SV)
 | some (.g la),some (.g lb)=>match op with
  | .eql=>some (StEq P t la lb,.c (.b (qM la lb)))
  | .neq=>some (StEq P t la lb,.c (.b (!qM la lb)))
  | _=>none
 | some (.c (.b a)),some (.c (.b b))=>match op with
  | .eql=>some (P.underlying t=some .bool,.c (.b (a == b)))
  | .neq=>some (P.underlying t=some .bool,.c (.b (!(a == b))))
  | _=>none
 | some (.c (.p _ _)),some (.c (.v (.pointer none)))=>match op with
  | .eql=>some (∃ e,P.underlying t=some (.pointer e),.c (.b false))
  | .neq=>some (∃ e,P.underlying t=some (.pointer e),.c (.b true))
  | _=>none
 | some (.c (.v (.pointer none))),some (.c (.v (.pointer none)))=>match op with
  | .eql=>some (∃ e,P.underlying t=some (.pointer e),.c (.b true))
  | .neq=>some (∃ e,P.underlying t=some (.pointer e),.c (.b false))
  | _=>none
 | some (.c x),some (.c y)=>match qS op x y with
  | some (p,z)=>some (p,.c z)
  | none=>none
 | _,_=>none
def qT (op:UnOp):Option SV→Option (Prop × SV)
 | some (.c (.b x))=>match op with
  | .not=>some (True,.c (.b (!x)))
  | _=>none
 | some (.c (.i k n))=>match op with
  | .neg=>some (True,.c (.i k (k.wrap (0 - n))))
  | _=>none
 | _=>none
def qU:Option TI→Option TI→Option SV→Option (Prop × SV)
 | some _,some ⟨_,_,_,_,_,_,1,k⟩,some (.c (.i _ n))=>some (True,.c (.i k (k.wrap n)))
 | some _,some ⟨_,_,_,_,_,_,2,_⟩,some (.c (.s l))=>some (True,.c (.s l))
 | _,_,_=>none
def qV (f:Nat):Option TI→Option SV→Option (Prop × SV)
 | some ⟨_,_,_,fs,_,_,4,_⟩,some (.c (.p c o))=>match zD fs f with
  | some (_,0,_)=>none
  | some (d,_+1,_)=>some (True,.c (.p c (o+d)))
  | none=>none
 | some ⟨_,_,_,fs,_,_,4,_⟩,some (.c (.v (.pointer (some ⟨b,o,none⟩))))=>match zD fs f with
  | some (_,0,_)=>none
  | some (d,_+1,_)=>some (True,.c (.v (.pointer (some ⟨b,o+d,none⟩))))
  | none=>none
 | _,_=>none
def qW (f:Nat):Option TI→Option SV→Option (Prop × SV)
 | some ⟨_,_,_,fs,_,_,4,_⟩,some (.g l)=>match zD fs f with
  | some (d,sz,true)=>match zB d sz l with
   | some r=>some (True,.g r)
   | none=>none
  | some (d,_,false)=>match zD l d with
   | some x=>some (True,.c x)
   | none=>none
  | none=>none
 | _,_=>none
def qX (en:List EN):Option TI→Option SV→Option SV→Option (Prop × SV)
 | some ⟨_,_,_,_,_,es,3,_⟩,some (.c (.sl c o n _)),some (.c (.i _ j))=>some (0≤j∧j < (n:Int),.c (.p c (o+j.toNat * es)))
 | some ⟨_,_,_,_,_,es,3,_⟩,some (.c (.rw c n)),some (.c (.i _ j))=>match zD en c with
  | some ⟨(_,off,_),_ :: _,_⟩=>some (0≤j∧j < (n:Int)∧j.toNat * es=off,.c (.p c 0))
  | _=>none
 | some ⟨_,_,_,_,_,es,3,_⟩,some (.c (.v (.slice (some ⟨b,o,none⟩) n _))),some (.c (.i _ j))=>some (0≤j∧j < (n:Int),.c (.v (.pointer (some ⟨b,o+j.toNat * es,none⟩))))
 | _,_,_=>none
def qY:Option TI→Option SV→Option SV→Option (Prop × SV)
 | some ⟨_,_,_,_,_,_,2,_⟩,some (.c (.s l)),some (.c (.i _ j))=>some (0≤j∧j < (l.length:Int),.c (.i .u8 ((l.getD j.toNat 0).toNat:Int)))
 | _,_,_=>none
def qZ:Option TI→Option SV→Option Int→Option Int→Option (Prop × SV)
 | some ⟨_,_,_,_,_,_,2,_⟩,some (.c (.s l)),some lo,some hi=>some (0≤lo∧lo≤hi∧hi≤(l.length:Int),.c (.s ((l.take hi.toNat).drop lo.toNat)))
 | some ⟨_,_,_,_,_,es,3,_⟩,some (.c (.sl c o n m)),some lo,some hi=>some (0≤lo∧lo≤hi∧hi≤(m:Int),.c (.sl c (if m=lo.toNat then o else o+lo.toNat * es) (hi.toNat - lo.toNat) (m - lo.toNat)))
 | some ⟨_,_,_,_,_,_,3,_⟩,some (.c (.v (.slice none n m))),some lo,some hi=>some (0≤lo∧lo≤hi∧hi≤(m:Int),.c (.v (.slice none (hi.toNat - lo.toNat) (m - lo.toNat))))
 | some ⟨_,_,_,_,_,es,3,_⟩,some (.c (.v (.slice (some ⟨b,o,none⟩) n m))),some lo,some hi=>some (0≤lo∧lo≤hi∧hi≤(m:Int),.c (.v (.slice (some ⟨b,if m=lo.toNat then o else o+lo.toNat * es,none⟩) (hi.toNat - lo.toNat) (m - lo.toNat))))
 | _,_,_,_=>none
def qe:Option TI→Option SV→Option (Prop × SV)
 | some ⟨_,_,_,_,_,_,2,_⟩,some (.c (.s l))=>some (True,.c (.i .i64 (l.length:Int)))
 | some ⟨_,_,_,_,_,_,3,_⟩,some (.c (.sl _ _ n _))=>some (True,.c (.i .i64 (n:Int)))
 | some ⟨_,_,_,_,_,_,3,_⟩,some (.c (.rw _ n))=>some (True,.c (.i .i64 (n:Int)))
 | some ⟨_,_,_,_,_,_,3,_⟩,some (.c (.v (.slice _ n _)))=>some (True,.c (.i .i64 (n:Int)))
 | _,_=>none
def qf (ev:Operand→Option SV) (ps:List (Nat × Operand)):Option TI→Option (Prop × SV)
 | some ⟨_,_,z,fs,_,_,4,_⟩=>match qg fs ev ps z with
  | some l=>some (True,.g l)
  | none=>none
 | _=>none
def qh (k:Nat):Option SV→Option (Prop × SV)
 | some (.t l)=>match zD l k with
  | some x=>some (True,x.sv)
  | none=>none
 | _=>none
def qj (t:TypeId):Option TI→Option SV→Option (Prop × SV)
 | some ⟨_,_,_,_,_,_,k,_⟩,some (.c x)=>if k=8 then none else match qq x with
  | some y=>some (True,.c (.v (.iface t y)))
  | none=>none
 | _,_=>none
def qm:Option SV→Int
 | some (.c (.s l))=>l.length
 | some (.c (.sl _ _ n _))=>(n:Int)
 | some (.c (.v (.slice _ n _)))=>(n:Int)
 | _=>0
def qn:Option SV→Option SV→Option (Prop × SV)
 | some (.c (.i k a)),some (.c (.i _ b))=>some (True,.c (.i k (if b < a then b else a)))
 | _,_=>none
def qo:Option SV→Option SV→Option (Prop × SV)
 | some (.c (.i k a)),some (.c (.i _ b))=>some (True,.c (.i k (if a < b then b else a)))
 | _,_=>none
def qN (P:Program) (ev:Operand→Option SV):Call→Option (Prop × SV)
 | ⟨.builtin .len,args,tys⟩=>match args.toList,tys.toList with
  | [x],[t]=>qe (zG2 P t) (ev x)
  | _,_=>none
 | ⟨.builtin .min,args,_⟩=>match args.toList with
  | [x,y]=>qn (ev x) (ev y)
  | _=>none
 | ⟨.builtin .max,args,_⟩=>match args.toList with
  | [x,y]=>qo (ev x) (ev y)
  | _=>none
 | _=>none
def qK (P:Program) (rd:Rd) (en:List EN) (ev:Operand→Option SV):Op→Option (Prop × SV)
 | .move x=>qO (ev x)
 | .assign x=>qO (ev x)
 | .pick c a b=>match ev c with
  | some (.c (.b x))=>qp x (ev a) (ev b)
  | _=>none
 | .load t a=>qP rd en (ev a) (zG2 P t)
 | .nilCheck x=>qQ (ev x)
 | .binOp op t x y _=>qR P op t (ev x) (ev y)
 | .unOp op _ x=>qT op (ev x)
 | .convert s d x=>qU (zG2 P s) (zG2 P d) (ev x)
 | .fieldAddr t x f=>qV f (zG2 P t) (ev x)
 | .field t x f=>qW f (zG2 P t) (ev x)
 | .indexAddr t x j=>qX en (zG2 P t) (ev x) (ev j)
 | .index t x j=>qY (zG2 P t) (ev x) (ev j)
 | .slice t x lo hi none=>qZ (zG2 P t) (ev x) (ql ev 0 lo) (ql ev (qm (ev x)) hi)
 | .build t ps=>qf ev ps.toList (zG2 P t)
 | .extract x k=>qh k (ev x)
 | .makeInterface t x=>qj t (zG2 P t) (ev x)
 | .makeFunc fn first cap=>match first.toList with
  | []=>match qk ev cap.toList with
   | some l=>some (True,.c (.f fn l))
   | none=>none
  | _ :: _=>none
 | .call c=>qN P ev c
 | _=>none
def zE8:Nat:=4294967295
structure HE (ρ:Nat→RE) (pr:Nat→Prop) (w:World) (c:Nat) (ty:TypeId × Nat × (RE→Prop)) (cells:List SC) (mu:Bool):Prop where
 heap:ty.1 ≠ zE8∧(ρ c).nl=none→w.heap[(ρ c).blk]?=some (.cells ((ρ c).pre++zC1 ρ cells++(ρ c).post).toArray ty.1 (0,0))
 wf:wfs pr cells
 dead:ty.1=zE8→cells=[]∧mu=false
 non:(ρ c).nl ≠ none→cells=[]
def Hp (ρ:Nat→RE) (pr:Nat→Prop) (en:List EN) (w:World):Prop:=
 ∀ c ty cells mu,pr c→zD en c=some ⟨ty,cells,mu⟩→HE ρ pr w c ty cells mu
def Ho (ρ:Nat→RE) (pr:Nat→Prop) (en:List EN):Prop:=∀ c ty cells mu,pr c→zD en c=some ⟨ty,cells,mu⟩→(ρ c).pre.length=ty.2.1∧ty.2.2 (ρ c)
section
variable {P:Program} {en:List EN} {ev:Operand→Option SV} {rv:Operand→Value} {ρ:Nat→RE} {pr:Nat→Prop} {w:World}
theorem zD5 (l:List SC):(zC1 ρ l).length=l.length:=by simp [zC1]
theorem Hp.cellAt (hh:Hp ρ pr en w) {c:Nat} {ty:TypeId × Nat × (RE→Prop)} {cells:List SC} {mu:Bool} (hc:pr c) (he:zD en c=some ⟨ty,cells,mu⟩) {j:Nat} {x:SC} (hx:cells[j]?=some x) :
  w.cell? ⟨(ρ c).blk,(ρ c).pre.length+j,none⟩=some (x.den ρ):=by
 have hj:=(List.getElem?_eq_some_iff.1 hx).1
 have h:=(hh c ty cells mu hc he).heap ⟨fun hd=>by rw [((hh c ty cells mu hc he).dead hd).1] at hj; simp at hj,Decidable.byContradiction fun hd=>by rw [(hh c ty cells mu hc he).non hd] at hj; simp at hj⟩
 simp only [World.cell?,h,Option.isSome_none,Bool.false_eq_true,if_false,List.getElem?_toArray]
 rw [List.append_assoc,List.getElem?_append_right (by omega),Nat.add_sub_cancel_left,List.getElem?_append_left (by rw [zD5]; exact hj)]
 simp [zC1,hx]
theorem zG0 (a b j:Nat):(Addr.mk a b none).add j=⟨a,b+j,none⟩:=by
 unfold Addr.add; split
 ·rename_i h; subst h; rfl
 ·rfl
theorem zD2 {t:TypeId} {ti:TI} (h:zG2 P t=some ti):∃ i d z fs e,P.info? t=some i∧P.underlying t=some d∧i.zero=some z∧fieldsD P d=some fs∧P.info? (zX7 (some d))=some e ∧
  ti=⟨i.size,aggD (some d),z.cells.toList.map qz,fs,zX7 (some d),e.size,kdD (some d),ikD (some d)⟩:=by
 unfold zG2 at h
 split at h
 ·cases h
 split at h
 ·rename_i i d h1 h2
  split at h
  ·rename_i z fs e h3 h4 h5
   exact ⟨i,d,z,fs,e,h1,h2,h3,h4,h5,by simpa using h.symm⟩
  ·cases h
 ·cases h
theorem zC6 {t:TypeId} {i:TypeInfo} (h:P.info? t=some i):(sizeOf t).run P w=.ok i.size w:=by simp [sizeOf,typeInfo,h]
theorem zN8 {t:TypeId} {d:TypeDesc} (h:P.underlying t=some d):(isAgg t).run P w=.ok (aggD (some d)) w:=by
 cases d <;> simp [isAgg,underlying,h,aggD]
theorem zC9 {t:TypeId} {d:TypeDesc} (h:P.underlying t=some d):(underlying t).run P w=.ok d w:=by simp [underlying,h]
def RdOk (rd:Rd) (w:World):Prop:=∀ b o n l,rd b o n=some l→∃ vs:List Value,vs.length=n∧l=vs.map qz∧∀ (j:Nat) v,vs[j]?=some v→w.cell? ⟨b,o+j,none⟩=some v
theorem noRd_ok (w:World):RdOk noRd w:=fun _ _ _ _ h=>by cases h
theorem load_ok {rd:Rd} {t:TypeId} {a:SV} {p:Prop} {v:SV} (h:qP rd en (some a) (zG2 P t)=some (p,v)) (ha:a.wf pr) (hrd:RdOk rd w) (hh:Hp ρ pr en w):(Instr.loadAt t (a.den ρ)).run P w=.ok (v.den ρ) w∧v.wf pr:=by
 cases hti:zG2 P t with
 | none=>rw [hti] at h; cases a with | c x=>cases x <;> simp [qP] at h | _=>simp [qP] at h
 | some ti =>
  rw [hti] at h
  obtain ⟨i,d,z,fs,_,h1,h2,h3,h4,_,rfl⟩:=zD2 hti
  have hag:=zN8 (P:=P) (w:=w) h2
  cases a with
  | g l=>simp [qP] at h
  | t l=>simp [qP] at h
  | c x =>
   cases x <;> try (simp [qP] at h; done)
   case v q =>
    cases hb:aggD (some d) with
    | true =>
     rw [hb] at h hag
     unfold qP at h
     split at h <;> try cases h
     ·rename_i b o sz _ _ _ _ _ _ hq hs
      split at h <;> try cases h
      rename_i l hl
      obtain ⟨vs,v1,rfl,v3⟩:=hrd _ _ _ _ hl
      cases hq
      simp only [Option.some.injEq,TI.mk.injEq] at hs
      obtain ⟨rfl,_⟩:=hs
      refine ⟨?_,fun y hy=>by obtain ⟨z,_,rfl⟩:=List.mem_map.1 hy; exact zM8 _ _⟩
      have hden:zC1 ρ (vs.map qz)=vs:=by
       unfold zC1; rw [List.map_map]
       conv=>rhs; rw [← List.map_id vs]
       exact List.map_congr_left fun z _=>zJ1 ρ z
      have hload:=run_loadCells_list (P:=P) w ⟨b,o,none⟩ vs (fun j u hj=>by rw [zG0]; exact v3 j u hj)
      rw [v1] at hload
      simp [Instr.loadAt,Instr.sureAddr,loadVar,SV.den,SC.den,hag,zC6 h1,hload,hden]
     ·rename_i hs; simp at hs
     ·rename_i hq _; cases hq
     ·rename_i hq _; cases hq
    | false =>
     rw [hb] at h hag
     unfold qP at h
     split at h <;> try cases h
     ·rename_i hs; simp at hs
     ·rename_i b o _ _ _ _ _ _ _ hq hs
      split at h <;> try cases h
      rename_i x hl
      obtain ⟨vs,v1,v2,v3⟩:=hrd _ _ _ _ hl
      cases hq
      cases vs with
      | nil=>simp at v1
      | cons z r =>
       simp only [List.map_cons,List.cons.injEq] at v2
       obtain ⟨rfl,_⟩:=v2
       have hc:=v3 0 z rfl
       rw [Nat.add_zero] at hc
       refine ⟨?_,zM8 _ _⟩
       have hd:(qz z).den ρ=z:=zJ1 ρ z
       simp only [SV.den,hd]
       simp [Instr.loadAt,Instr.sureAddr,loadVar,SC.den,hag,load,Sem.run,hc]
     ·rename_i hq _; cases hq
     ·rename_i hq _; cases hq
   rename_i c o
   have hc:pr c:=ha
   cases hb:aggD (some d) with
   | true =>
    rw [hb] at h hag
    simp only [qP] at h
    split at h <;> try cases h
    rename_i ty cells mu he
    split at h <;> try cases h
    rename_i l hl
    obtain ⟨hl1,hl2⟩:=zM4 hl
    refine ⟨?_,fun y hy=>(hh c ty cells mu hc he).wf y (by rw [hl1] at hy; exact List.mem_of_mem_drop (List.mem_of_mem_take hy))⟩
    have hlen:(zC1 ρ l).length=i.size:=by rw [zD5,hl1,List.length_take,List.length_drop]; omega
    have hload:=run_loadCells_list (P:=P) w ⟨(ρ c).blk,(ρ c).pre.length+o,none⟩ (zC1 ρ l) (fun j u hj=>by
     rw [zG0,Nat.add_assoc]
     have hx:∃ y,l[j]?=some y∧u=y.den ρ:=by
      simp only [zC1,List.getElem?_map,Option.map_eq_some_iff] at hj
      obtain ⟨y,hy,rfl⟩:=hj
      exact ⟨y,hy,rfl⟩
     obtain ⟨y,hy,rfl⟩:=hx
     refine hh.cellAt hc he ?_
     have hj2:j < i.size:=by rw [← hlen,zD5]; exact (List.getElem?_eq_some_iff.1 hy).1
     rw [hl1,List.getElem?_take,if_pos hj2,List.getElem?_drop] at hy
     exact hy)
    rw [hlen] at hload
    simp [Instr.loadAt,Instr.sureAddr,loadVar,SV.den,SC.den,zG5,hag,zC6 h1,hload]
   | false =>
    rw [hb] at h hag
    simp only [qP] at h
    split at h <;> try cases h
    rename_i ty cells mu he
    split at h <;> try cases h
    rename_i x hx
    rw [zA5] at hx
    refine ⟨?_,(hh c ty cells mu hc he).wf x (List.mem_of_getElem? hx)⟩
    simp [Instr.loadAt,Instr.sureAddr,loadVar,SV.den,SC.den,zG5,hag,load,Sem.run,hh.cellAt hc he hx]
theorem bin_ok {op:BinOp} {t t':TypeId} {x y z:SC} {p:Prop} (h:qS op x y=some (p,z)) (hp:p) (X Y:Operand) (o:Oper) (ho:o.op=.binOp op t X Y t') (hX:rv X=x.den ρ) (hY:rv Y=y.den ρ) :
  (execOp rv o).run P w=.ok (.value (z.den ρ)) w∧z.wf pr:=by
 unfold qS at h
 split at h <;> simp only [Option.some.injEq,Prod.mk.injEq,reduceCtorEq] at h <;> obtain ⟨rfl,rfl⟩:=h
 all_goals refine ⟨?_,trivial⟩
 all_goals simp only [execOp,ho,hX,hY,SC.den]
 all_goals first
  | (subst hp; simp [eqGuard,binOp,Op.intArith,Op.intCmp]; done)
  | (have hp':¬ (_:Int) < 0:=Int.not_lt.2 hp; simp [eqGuard,binOp,Op.shift,hp',shlZ,shrZ]; done)
  | (subst hp; simp [eqGuard,binOp,Op.intBits,andZ,orZ,xorZ]; done)
  | (obtain ⟨rfl,hne⟩:=hp; simp [eqGuard,binOp,Op.intDiv,hne]; done)
  | (simp [eqGuard,binOp,Op.stringOp]; done)
  | skip
 rename_i a b
 have hsz:¬ (((ByteArray.mk a.toArray).size+(ByteArray.mk b.toArray).size:Nat):Int) > IntKind.i64.max:=by
  have:(ByteArray.mk a.toArray).size=a.length:=by simp [ByteArray.size]
  have:(ByteArray.mk b.toArray).size=b.length:=by simp [ByteArray.size]
  have:IntKind.i64.max=9223372036854775807:=by decide
  omega
 have happ:(ByteArray.mk a.toArray)++(ByteArray.mk b.toArray)=⟨(a++b).toArray⟩:=by
  apply ByteArray.ext
  simp [ByteArray.data_append]
 simp only [eqGuard,binOp,Op.stringOp,if_neg hsz,happ]
 simp
theorem binV_ok {op:BinOp} {t t':TypeId} {x y:Option SV} {v:SV} {p:Prop} (h:qR P op t x y=some (p,v)) (hp:p) (X Y:Operand) (o:Oper) (ho:o.op=.binOp op t X Y t')
  (hX:∀ u,x=some u→rv X=u.den ρ) (hY:∀ u,y=some u→rv Y=u.den ρ):(execOp rv o).run P w=.ok (.value (v.den ρ)) w∧v.wf pr:=by
 unfold qR at h
 split at h <;> try cases h
 ·rename_i la lb
  have e1:=hX _ rfl
  have e2:=hY _ rfl
  split at h <;> simp only [Option.some.injEq,Prod.mk.injEq,reduceCtorEq] at h
  ·obtain ⟨rfl,rfl⟩:=h
   exact ⟨by simp [execOp,ho,e1,e2,SV.den,SC.den,eqGuard,binOp,hp.1,hp.2],trivial⟩
  ·obtain ⟨rfl,rfl⟩:=h
   exact ⟨by simp [execOp,ho,e1,e2,SV.den,SC.den,eqGuard,binOp,hp.1,hp.2],trivial⟩
 ·rename_i a b
  have e1:=hX _ rfl
  have e2:=hY _ rfl
  have he:p→P.underlying t=some .bool→(Op.equal t (.bool a) (.bool b)).run P w=.ok (a == b) w:=fun _ ht=>by
   have hu:(underlying t).run P w=.ok .bool w:=by simp [underlying,ht]
   unfold Op.equal Op.maxDepth
   rw [Op.equalIn]
   simp [hu]
  split at h <;> simp only [Option.some.injEq,Prod.mk.injEq,reduceCtorEq] at h
  ·obtain ⟨rfl,rfl⟩:=h
   have he:=he hp hp
   exact ⟨by simp [execOp,ho,e1,e2,SV.den,SC.den,eqGuard,binOp,he],trivial⟩
  ·obtain ⟨rfl,rfl⟩:=h
   have he:=he hp hp
   exact ⟨by simp [execOp,ho,e1,e2,SV.den,SC.den,eqGuard,binOp,he],trivial⟩
 ·have e1:=hX _ rfl
  have e2:=hY _ rfl
  have he:(∃ e,P.underlying t=some (.pointer e))→∀ a,(Op.equal t (.pointer (some a)) (.pointer none)).run P w=.ok false w:=fun ⟨e,ht⟩ a=>by
   have hu:(underlying t).run P w=.ok (.pointer e) w:=by simp [underlying,ht]
   unfold Op.equal Op.maxDepth
   rw [Op.equalIn]
   simp [hu]
  split at h <;> simp only [Option.some.injEq,Prod.mk.injEq,reduceCtorEq] at h
  ·obtain ⟨rfl,rfl⟩:=h
   have he:=he hp
   exact ⟨by simp [execOp,ho,e1,e2,SV.den,SC.den,zG5,eqGuard,binOp,he],trivial⟩
  ·obtain ⟨rfl,rfl⟩:=h
   have he:=he hp
   exact ⟨by simp [execOp,ho,e1,e2,SV.den,SC.den,zG5,eqGuard,binOp,he],trivial⟩
 ·have e1:=hX _ rfl
  have e2:=hY _ rfl
  have he:(∃ e,P.underlying t=some (.pointer e))→(Op.equal t (.pointer none) (.pointer none)).run P w=.ok true w:=fun ⟨e,ht⟩=>by
   have hu:(underlying t).run P w=.ok (.pointer e) w:=by simp [underlying,ht]
   unfold Op.equal Op.maxDepth
   rw [Op.equalIn]
   simp [hu]
  split at h <;> simp only [Option.some.injEq,Prod.mk.injEq,reduceCtorEq] at h
  ·obtain ⟨rfl,rfl⟩:=h
   have he:=he hp
   exact ⟨by simp [execOp,ho,e1,e2,SV.den,SC.den,eqGuard,binOp,he],trivial⟩
  ·obtain ⟨rfl,rfl⟩:=h
   have he:=he hp
   exact ⟨by simp [execOp,ho,e1,e2,SV.den,SC.den,eqGuard,binOp,he],trivial⟩
 ·split at h <;> simp only [Option.some.injEq,Prod.mk.injEq,reduceCtorEq] at h
  rename_i q z hz
  obtain ⟨rfl,rfl⟩:=h
  exact bin_ok hz hp X Y o ho (hX _ rfl) (hY _ rfl)
theorem un_ok {op:UnOp} {x:SV} {v:SV} {p:Prop} (h:qT op (some x)=some (p,v)):(Op.unary op (x.den ρ)).run P w=.ok (v.den ρ) w∧v.wf pr:=by
 unfold qT at h
 split at h <;> try cases h
 ·rename_i b hb
  cases hb
  cases op <;> simp only [Option.some.injEq,Prod.mk.injEq,reduceCtorEq] at h
  obtain ⟨_,rfl⟩:=h
  exact ⟨by simp [Op.unary,SV.den,SC.den],trivial⟩
 ·rename_i k n hb
  cases hb
  cases op <;> simp only [Option.some.injEq,Prod.mk.injEq,reduceCtorEq] at h
  obtain ⟨_,rfl⟩:=h
  exact ⟨by simp [Op.unary,Op.intArith,SV.den,SC.den],trivial⟩
theorem kd_int {d:TypeDesc} (h:kdD (some d)=1):∃ k,d=.int k:=by cases d <;> simp_all [kdD]
theorem kd_str {d:TypeDesc} (h:kdD (some d)=2):d=.string:=by cases d <;> simp_all [kdD]
theorem zI1 {d:TypeDesc} (h:kdD (some d)=3):∃ e,d=.slice e:=by cases d <;> simp_all [kdD]
theorem zR5 {d:TypeDesc} (h:kdD (some d)=4):∃ fs,d=.struct fs:=by cases d <;> simp_all [kdD]
theorem conv_ok {s t:TypeId} {x v:SV} {p:Prop} (h:qU (zG2 P s) (zG2 P t) (some x)=some (p,v)):(convert s t (x.den ρ)).run P w=.ok (v.den ρ) w∧v.wf pr:=by
 cases hs:zG2 P s with
 | none=>rw [hs] at h; simp [qU] at h
 | some si =>
  cases ht:zG2 P t with
  | none=>rw [hs,ht] at h; simp [qU] at h
  | some ti =>
   rw [hs,ht] at h
   obtain ⟨_,ds,_,_,_,_,hus,_,_,_,rfl⟩:=zD2 hs
   obtain ⟨_,dt,_,_,_,_,hut,_,_,_,rfl⟩:=zD2 ht
   unfold qU at h
   split at h <;> try cases h
   ·rename_i k n h1 h2 h3
    cases h3
    simp only [Option.some.injEq,TI.mk.injEq] at h2
    obtain ⟨_,_,_,_,_,_,hk,rfl⟩:=h2
    obtain ⟨k',rfl⟩:=kd_int hk
    refine ⟨?_,trivial⟩
    cases ds <;> simp [convert,zC9 hus,zC9 hut,SV.den,SC.den,Conv.intToInt,ikD]
   ·rename_i l h1 h2 h3
    cases h3
    simp only [Option.some.injEq,TI.mk.injEq] at h2
    obtain ⟨_,_,_,_,_,_,hk,_⟩:=h2
    obtain rfl:=kd_str hk
    refine ⟨?_,trivial⟩
    cases ds <;> simp [convert,zC9 hus,zC9 hut,SV.den,SC.den]
theorem zK6 {f:Field} {d sz:Nat} {ag:Bool} (h:zO2 P f=some (d,sz,ag)):∃ i e,P.info? f.type=some i∧P.underlying f.type=some e∧d=f.offset∧sz=i.size∧ag=aggD (some e):=by
 unfold zO2 at h
 split at h
 ·rename_i i e h1 h2
  simp only [Option.some.injEq,Prod.mk.injEq] at h
  exact ⟨i,e,h1,h2,h.1.symm,h.2.1.symm,h.2.2.symm⟩
 ·cases h
theorem zK5:∀ {l:List Field} {r:List (Nat × Nat × Bool)},l.mapM (zO2 P)=some r→∀ (j:Nat) (y:Nat × Nat × Bool),r[j]?=some y→∃ f,l[j]?=some f∧zO2 P f=some y
 | [],r,h,j,y,hy=>by simp at h; subst h; simp at hy
 | f :: l,r,h,j,y,hy=>by
  simp only [List.mapM_cons,Option.bind_eq_bind,Option.pure_def] at h
  cases h1:zO2 P f with
  | none=>simp [h1] at h
  | some q =>
   cases h2:l.mapM (zO2 P) with
   | none=>simp [h1,h2] at h
   | some r' =>
    simp [h1,h2] at h
    subst h
    cases j with
    | zero=>simp at hy; subst hy; exact ⟨f,rfl,h1⟩
    | succ j=>exact zK5 h2 j y (by simpa using hy)
theorem zP5:∀ {l:List Field} {r:List (Nat × Nat × Bool)},l.mapM (zO2 P)=some r→l.mapM (fun f=>(P.info? f.type).map fun i=>(f.offset,i.size))=some (r.map fun y=>(y.1,y.2.1))
 | [],r,h=>by simp at h; subst h; simp
 | f :: l,r,h=>by
  simp only [List.mapM_cons,Option.bind_eq_bind,Option.pure_def] at h ⊢
  cases h1:zO2 P f with
  | none=>simp [h1] at h
  | some q =>
   obtain ⟨d,sz,ag⟩:=q
   cases h2:l.mapM (zO2 P) with
   | none=>simp [h1,h2] at h
   | some r' =>
    simp [h1,h2] at h
    subst h
    obtain ⟨i,e,hi,_,rfl,rfl,_⟩:=zK6 h1
    rw [zP5 h2]
    simp [hi]
theorem fa_ok {t:TypeId} {x v:SV} {f:Nat} {p:Prop} (h:qV f (zG2 P t) (some x)=some (p,v)) (hx:x.wf pr):(Instr.fieldAt t (x.den ρ) f).run P w=.ok (v.den ρ) w∧v.wf pr:=by
 cases ht:zG2 P t with
 | none=>rw [ht] at h; simp [qV] at h
 | some ti =>
  rw [ht] at h
  obtain ⟨_,d,_,fs,ei,_,hu,_,hfs,hei,rfl⟩:=zD2 ht
  unfold qV at h
  split at h <;> try cases h
  ·rename_i c o h1 h2
   cases h2
   simp only [Option.some.injEq,TI.mk.injEq] at h1
   obtain ⟨_,_,_,rfl,_,_,hk,_⟩:=h1
   obtain ⟨fl,rfl⟩:=zR5 hk
   split at h <;> try cases h
   rename_i d sz ag hn
   rw [zA5] at hn
   obtain ⟨g,hg,hgd⟩:=zK5 (l:=fl.toList) hfs f _ hn
   obtain ⟨i,e,hi,_,rfl,hsz,_⟩:=zK6 hgd
   have hg':fl[f]?=some g:=by simpa using hg
   refine ⟨?_,hx⟩
   simp [Instr.fieldAt,zC9 hu,hg',SV.den,SC.den,zG5,Instr.sureAddr,fieldPlace,zC6 hi,← hsz,zG0,Nat.add_assoc]
  ·rename_i b o h1 h2
   cases h2
   simp only [Option.some.injEq,TI.mk.injEq] at h1
   obtain ⟨_,_,_,rfl,_,_,hk,_⟩:=h1
   obtain ⟨fl,rfl⟩:=zR5 hk
   split at h <;> try cases h
   rename_i d sz ag hn
   rw [zA5] at hn
   obtain ⟨g,hg,hgd⟩:=zK5 (l:=fl.toList) hfs f _ hn
   obtain ⟨i,e,hi,_,rfl,hsz,_⟩:=zK6 hgd
   have hg':fl[f]?=some g:=by simpa using hg
   refine ⟨?_,trivial⟩
   simp [Instr.fieldAt,zC9 hu,hg',SV.den,SC.den,Instr.sureAddr,fieldPlace,zC6 hi,← hsz,zG0]
theorem fld_ok {t:TypeId} {x v:SV} {f:Nat} {p:Prop} (h:qW f (zG2 P t) (some x)=some (p,v)) (hx:x.wf pr):(Instr.field t (x.den ρ) f).run P w=.ok (v.den ρ) w∧v.wf pr:=by
 cases ht:zG2 P t with
 | none=>rw [ht] at h; simp [qW] at h
 | some ti =>
  rw [ht] at h
  obtain ⟨_,d,_,fs,ei,_,hu,_,hfs,hei,rfl⟩:=zD2 ht
  unfold qW at h
  split at h <;> try cases h
  rename_i l h1 h2
  cases h2
  simp only [Option.some.injEq,TI.mk.injEq] at h1
  obtain ⟨_,_,_,rfl,_,_,hk,_⟩:=h1
  obtain ⟨fl,rfl⟩:=zR5 hk
  split at h <;> try cases h
  ·rename_i d sz hn
   rw [zA5] at hn
   obtain ⟨g,hg,hgd⟩:=zK5 (l:=fl.toList) hfs f _ hn
   obtain ⟨i,e,hi,hue,rfl,rfl,hag⟩:=zK6 hgd
   have hg':fl[f]?=some g:=by simpa using hg
   split at h <;> simp only [Option.some.injEq,Prod.mk.injEq,reduceCtorEq] at h
   rename_i r hr
   obtain ⟨_,rfl⟩:=h
   obtain ⟨hr1,hr2⟩:=zM4 hr
   refine ⟨?_,fun y hy=>hx y (by rw [hr1] at hy; exact List.mem_of_mem_drop (List.mem_of_mem_take hy))⟩
   have hia:=zN8 (P:=P) (w:=w) hue
   rw [← hag] at hia
   simp [Instr.field,zC9 hu,hg',SV.den,asAgg,part,hia,zC6 hi,zC1,hr1,List.map_take,List.map_drop]
  ·rename_i d sz hn
   rw [zA5] at hn
   obtain ⟨g,hg,hgd⟩:=zK5 (l:=fl.toList) hfs f _ hn
   obtain ⟨i,e,hi,hue,rfl,rfl,hag⟩:=zK6 hgd
   have hg':fl[f]?=some g:=by simpa using hg
   split at h <;> simp only [Option.some.injEq,Prod.mk.injEq,reduceCtorEq] at h
   rename_i y hy
   obtain ⟨_,rfl⟩:=h
   rw [zA5] at hy
   refine ⟨?_,hx y (List.mem_of_getElem? hy)⟩
   have hia:=zN8 (P:=P) (w:=w) hue
   rw [← hag] at hia
   simp [Instr.field,zC9 hu,hg',SV.den,asAgg,part,hia,zC1,hy]
theorem ia_ok {t:TypeId} {x y v:SV} {p:Prop} (h:qX en (zG2 P t) (some x) (some y)=some (p,v)) (hp:p) (hx:x.wf pr) (hh:Hp ρ pr en w) (hho:Ho ρ pr en) :
  (Instr.indexAt t (x.den ρ) (y.den ρ)).run P w=.ok (v.den ρ) w∧v.wf pr:=by
 cases ht:zG2 P t with
 | none=>rw [ht] at h; simp [qX] at h
 | some ti =>
  rw [ht] at h
  obtain ⟨_,d,_,fs,ei,_,hu,_,hfs,hei,rfl⟩:=zD2 ht
  unfold qX at h
  split at h
  ·rename_i c o n m k j h1 h2 h3
   simp only [Option.some.injEq,Prod.mk.injEq] at h
   obtain ⟨rfl,rfl⟩:=h
   cases h2; cases h3
   simp only [Option.some.injEq,TI.mk.injEq] at h1
   obtain ⟨_,_,_,_,_,rfl,hk,_⟩:=h1
   refine ⟨?_,hx⟩
   obtain ⟨e,rfl⟩:=zI1 hk
   have hs:(sizeOf e).run P w=.ok ei.size w:=zC6 hei
   simp [Instr.indexAt,zC9 hu,SV.den,SC.den,zG5,asIntOf,hp.1,hp.2,hs,zG0,Nat.add_assoc]
  ·rename_i c n k j h1 h2 h3
   cases h2; cases h3
   simp only [Option.some.injEq,TI.mk.injEq] at h1
   obtain ⟨_,_,_,_,_,rfl,hk,_⟩:=h1
   split at h <;> simp only [Option.some.injEq,Prod.mk.injEq,reduceCtorEq] at h
   rename_i ty off iv c0 cs mu he
   obtain ⟨rfl,rfl⟩:=h
   refine ⟨?_,hx⟩
   have hon:(ρ c).nl=none:=Decidable.byContradiction fun hd=>by have:=(hh c _ _ _ hx he).non hd; cases this
   obtain ⟨e,rfl⟩:=zI1 hk
   have hs:(sizeOf e).run P w=.ok ei.size w:=zC6 hei
   have ho:=(hho c _ _ _ hx he).1
   simp only at ho
   obtain ⟨p1,p2,p3⟩:=hp
   simp [Instr.indexAt,zC9 hu,SV.den,SC.den,zG5,asIntOf,zF2 hon,p1,p2,hs,zG0,p3,ho]
  ·rename_i b o n m k j h1 h2 h3
   simp only [Option.some.injEq,Prod.mk.injEq] at h
   obtain ⟨rfl,rfl⟩:=h
   cases h2; cases h3
   simp only [Option.some.injEq,TI.mk.injEq] at h1
   obtain ⟨_,_,_,_,_,rfl,hk,_⟩:=h1
   refine ⟨?_,trivial⟩
   obtain ⟨e,rfl⟩:=zI1 hk
   have hs:(sizeOf e).run P w=.ok ei.size w:=zC6 hei
   simp [Instr.indexAt,zC9 hu,SV.den,SC.den,asIntOf,hp.1,hp.2,hs,zG0]
  ·cases h
theorem zQ6 (l:List UInt8):(ByteArray.mk l.toArray).size=l.length:=by simp [ByteArray.size]
theorem ix_ok {t:TypeId} {x y v:SV} {p:Prop} (h:qY (zG2 P t) (some x) (some y)=some (p,v)) (hp:p) :
  (Instr.index t (x.den ρ) (y.den ρ)).run P w=.ok (v.den ρ) w∧v.wf pr:=by
 cases ht:zG2 P t with
 | none=>rw [ht] at h; simp [qY] at h
 | some ti =>
  rw [ht] at h
  obtain ⟨_,d,_,fs,ei,_,hu,_,hfs,hei,rfl⟩:=zD2 ht
  unfold qY at h
  split at h <;> try cases h
  rename_i l k j h1 h2 h3
  cases h2; cases h3
  simp only [Option.some.injEq,TI.mk.injEq] at h1
  obtain ⟨_,_,_,_,_,_,hk,_⟩:=h1
  obtain rfl:=kd_str hk
  refine ⟨?_,trivial⟩
  have hj:j.toNat < l.length:=by omega
  have hb:(ByteArray.mk l.toArray)[j.toNat]?=some (l[j.toNat]'hj):=by
   rw [getElem?_pos _ _ (by rw [zQ6]; exact hj)]
   rfl
  simp [Instr.index,zC9 hu,SV.den,SC.den,asIntOf,hp.1,hb,hj]
theorem zO9 (l:List UInt8) (a b:Nat):(ByteArray.mk l.toArray).extract a b=⟨((l.take b).drop a).toArray⟩:=by
 apply ByteArray.ext
 apply Array.toList_inj.1
 simp [ByteArray.data_extract,List.drop_take]
theorem zZ4 {t e:TypeId} {size:Nat} {lo hi:Option Operand} (hu:P.underlying t=some (.slice e)) (hs:(sizeOf e).run P w=.ok size w) (ad:Addr) (n m:Nat) (a b:Int) (hp:0≤a∧a≤b∧b≤(m:Int))
  (hl:(lo=none∧a=0)∨∃ x k,lo=some x∧rv x=.int k a) (hh:(hi=none∧b=(n:Int))∨∃ x k,hi=some x∧rv x=.int k b) :
  (Instr.sliceAt t (.slice (some ad) n m) (lo.map rv) (hi.map rv) none).run P w=.ok (.slice (some (if m=a.toNat then ad else ad.add (a.toNat * size))) (b.toNat - a.toNat) (m - a.toNat)) w:=by
 obtain ⟨p1,p2,p3⟩:=hp
 obtain ⟨a',rfl⟩:=Int.eq_ofNat_of_zero_le p1
 obtain ⟨b',rfl⟩:=Int.eq_ofNat_of_zero_le (Int.le_trans p1 p2)
 have p2':a'≤b':=by omega
 have p3':b'≤m:=by omega
 have e1:Option.map (fun x:Addr=>x.add (a' * size)) (some ad)=some (ad.add (a' * size)):=rfl
 have e2:(if m=a' then some ad else some (ad.add (a' * size)))=some (if m=a' then ad else ad.add (a' * size)):=by split <;> rfl
 rcases hl with ⟨rfl,ha⟩ | ⟨x,k,rfl,hx⟩ <;> rcases hh with ⟨rfl,hb⟩ | ⟨y,k',rfl,hy⟩
 ·obtain rfl:a'=0:=by omega
  obtain rfl:b'=n:=by omega
  simp [Instr.sliceAt,Instr.slice,zC9 hu,Instr.sliceBounds,hs]
  split <;> rfl
 ·obtain rfl:a'=0:=by omega
  simp [Instr.sliceAt,Instr.slice,zC9 hu,Instr.sliceBounds,Instr.sliceBound,asIntOf,hy,hs,p3']
  split <;> rfl
 ·obtain rfl:b'=n:=by omega
  simp [Instr.sliceAt,Instr.slice,zC9 hu,Instr.sliceBounds,Instr.sliceBound,asIntOf,hx,hs,e2,p2']
 ·simp [Instr.sliceAt,Instr.slice,zC9 hu,Instr.sliceBounds,Instr.sliceBound,asIntOf,hx,hy,hs,e2,p2',p3']
theorem slice_runs0 {t e:TypeId} {size:Nat} {lo hi:Option Operand} (hu:P.underlying t=some (.slice e)) (hs:(sizeOf e).run P w=.ok size w) (n m:Nat) (a b:Int) (hp:0≤a∧a≤b∧b≤(m:Int))
  (hl:(lo=none∧a=0)∨∃ x k,lo=some x∧rv x=.int k a) (hh:(hi=none∧b=(n:Int))∨∃ x k,hi=some x∧rv x=.int k b) :
  (Instr.sliceAt t (.slice none n m) (lo.map rv) (hi.map rv) none).run P w=.ok (.slice none (b.toNat - a.toNat) (m - a.toNat)) w:=by
 obtain ⟨p1,p2,p3⟩:=hp
 obtain ⟨a',rfl⟩:=Int.eq_ofNat_of_zero_le p1
 obtain ⟨b',rfl⟩:=Int.eq_ofNat_of_zero_le (Int.le_trans p1 p2)
 have p2':a'≤b':=by omega
 have p3':b'≤m:=by omega
 rcases hl with ⟨rfl,ha⟩ | ⟨x,k,rfl,hx⟩ <;> rcases hh with ⟨rfl,hb⟩ | ⟨y,k',rfl,hy⟩
 ·obtain rfl:a'=0:=by omega
  obtain rfl:b'=n:=by omega
  simp [Instr.sliceAt,Instr.slice,zC9 hu,Instr.sliceBounds,hs]
 ·obtain rfl:a'=0:=by omega
  simp [Instr.sliceAt,Instr.slice,zC9 hu,Instr.sliceBounds,Instr.sliceBound,asIntOf,hy,hs,p3']
 ·obtain rfl:b'=n:=by omega
  simp [Instr.sliceAt,Instr.slice,zC9 hu,Instr.sliceBounds,Instr.sliceBound,asIntOf,hx,hs,p2']
 ·simp [Instr.sliceAt,Instr.slice,zC9 hu,Instr.sliceBounds,Instr.sliceBound,asIntOf,hx,hy,hs,p2',p3']
theorem sl_ok {t:TypeId} {x v:SV} {lo hi:Option Operand} {p:Prop} (h:qZ (zG2 P t) (some x) (ql ev 0 lo) (ql ev (qm (some x)) hi)=some (p,v)) (hp:p)
  (hx:x.wf pr) (hev:∀ x u,ev x=some u→rv x=u.den ρ∧u.wf pr):(Instr.sliceAt t (x.den ρ) (lo.map rv) (hi.map rv) none).run P w=.ok (v.den ρ) w∧v.wf pr:=by
 cases ht:zG2 P t with
 | none=>rw [ht] at h; simp [qZ] at h
 | some ti =>
  rw [ht] at h
  obtain ⟨_,d,_,fs,ei,_,hu,_,hfs,hei,rfl⟩:=zD2 ht
  unfold qZ at h
  have hlo:∀ (o:Option Operand) (d q:Int),ql ev d o=some q→(o=none∧q=d)∨∃ x k,o=some x∧rv x=.int k q:=by
   intro o d q hq
   cases o with
   | none=>left; simp [ql] at hq; exact ⟨rfl,hq.symm⟩
   | some x =>
    right
    simp only [ql] at hq
    split at hq <;> simp only [Option.some.injEq,reduceCtorEq] at hq
    rename_i k n hx
    subst hq
    exact ⟨x,k,rfl,(hev _ _ hx).1⟩
  split at h <;> try cases h
  ·rename_i l a b h1 h2 h3 h4
   cases h2
   simp only [Option.some.injEq,TI.mk.injEq] at h1
   obtain ⟨_,_,_,_,_,_,hk,_⟩:=h1
   obtain rfl:=kd_str hk
   refine ⟨?_,trivial⟩
   obtain ⟨p1,p2,p3⟩:=hp
   rcases hlo lo 0 a h3 with ⟨rfl,rfl⟩ | ⟨x,k,rfl,hx⟩ <;> rcases hlo hi _ b h4 with ⟨rfl,hb⟩ | ⟨y,k',rfl,hy⟩
   ·simp only [qm] at hb
    subst hb
    have he:=zO9 l 0 l.length
    rw [List.take_length] at he
    have:ByteArray.extract ⟨l.toArray⟩ 0 (ByteArray.mk l.toArray).size=⟨l.toArray⟩:=by rw [zQ6]; simpa using he
    simp [Instr.sliceAt,Instr.slice,zC9 hu,SV.den,SC.den,Instr.sliceBounds]
   ·have hbn:b≤((ByteArray.mk l.toArray).size:Int):=by rw [zQ6]; exact p3
    simp [Instr.sliceAt,Instr.slice,zC9 hu,SV.den,SC.den,Instr.sliceBounds,Instr.sliceBound,asIntOf,zO9,hy,p2,hbn]
   ·simp only [qm] at hb
    subst hb
    simp [Instr.sliceAt,Instr.slice,zC9 hu,SV.den,SC.den,Instr.sliceBounds,Instr.sliceBound,asIntOf,zO9,hx,p1,p2,zQ6]
   ·have hbn:b≤((ByteArray.mk l.toArray).size:Int):=by rw [zQ6]; exact p3
    obtain ⟨n,rfl⟩:=Int.eq_ofNat_of_zero_le (show 0≤b by omega)
    have hbn:n≤l.length:=by omega
    simp [Instr.sliceAt,Instr.slice,zC9 hu,SV.den,SC.den,Instr.sliceBounds,Instr.sliceBound,asIntOf,zQ6,zO9,hx,hy,p1,p2,hbn]
  ·rename_i c o n m a b h1 h2 h3 h4
   cases h2
   simp only [Option.some.injEq,TI.mk.injEq] at h1
   obtain ⟨_,_,_,_,_,rfl,hk,_⟩:=h1
   obtain ⟨e,rfl⟩:=zI1 hk
   refine ⟨?_,hx⟩
   have hs:(sizeOf e).run P w=.ok ei.size w:=zC6 hei
   have hr:=zZ4 (P:=P) (w:=w) (rv:=rv) (lo:=lo) (hi:=hi) hu hs ⟨(ρ c).blk,(ρ c).pre.length+o,none⟩ n m a b hp (hlo lo 0 a h3) (hlo hi n b h4)
   simp only [SV.den,SC.den]
   rw [hr]
   congr 4
   split <;> simp [zG0,Nat.add_assoc]
  ·rename_i n m a b h1 h2 h3 h4
   cases h2
   simp only [Option.some.injEq,TI.mk.injEq] at h1
   obtain ⟨_,_,_,_,_,rfl,hk,_⟩:=h1
   obtain ⟨e,rfl⟩:=zI1 hk
   have hs:(sizeOf e).run P w=.ok ei.size w:=zC6 hei
   exact ⟨slice_runs0 (P:=P) (w:=w) (rv:=rv) (lo:=lo) (hi:=hi) hu hs n m a b hp (hlo lo 0 a h3) (hlo hi n b h4),trivial⟩
  ·rename_i bk o n m a b h1 h2 h3 h4
   cases h2
   simp only [Option.some.injEq,TI.mk.injEq] at h1
   obtain ⟨_,_,_,_,_,rfl,hk,_⟩:=h1
   obtain ⟨e,rfl⟩:=zI1 hk
   refine ⟨?_,trivial⟩
   have hs:(sizeOf e).run P w=.ok ei.size w:=zC6 hei
   have hr:=zZ4 (P:=P) (w:=w) (rv:=rv) (lo:=lo) (hi:=hi) hu hs ⟨bk,o,none⟩ n m a b hp (hlo lo 0 a h3) (hlo hi n b h4)
   simp only [SV.den,SC.den]
   rw [hr]
   congr 4
   split <;> simp [zG0]
theorem len_ok {t:TypeId} {ty:TypeId} {x v:SV} {p:Prop} (h:qe (zG2 P t) (some x)=some (p,v)):(Builtin.len_ #[t] ty #[x.den ρ]).run P w=.ok (v.den ρ) w∧v.wf pr:=by
 cases ht:zG2 P t with
 | none=>rw [ht] at h; simp [qe] at h
 | some ti =>
  rw [ht] at h
  obtain ⟨_,d,_,fs,ei,_,hu,_,hfs,hei,rfl⟩:=zD2 ht
  unfold qe at h
  split at h <;> try cases h
  all_goals
   rename_i h1 h2
   cases h2
   simp only [Option.some.injEq,TI.mk.injEq] at h1
   obtain ⟨_,_,_,_,_,_,hk,_⟩:=h1
   refine ⟨?_,trivial⟩
  ·obtain rfl:=kd_str hk
   simp [Builtin.len_,zC9 hu,SV.den,SC.den,goInt,zQ6]
  ·obtain ⟨e,rfl⟩:=zI1 hk
   simp [Builtin.len_,zC9 hu,SV.den,SC.den,goInt]
  ·obtain ⟨e,rfl⟩:=zI1 hk
   simp only [SV.den,SC.den]
   unfold zE9
   split <;> simp [Builtin.len_,zC9 hu,goInt]
  ·obtain ⟨e,rfl⟩:=zI1 hk
   simp [Builtin.len_,zC9 hu,SV.den,SC.den,goInt]
theorem ext_ok {k:Nat} {x v:SV} {p:Prop} (h:qh k (some x)=some (p,v)) (hx:x.wf pr):(Instr.extract (x.den ρ) k).run P w=.ok (v.den ρ) w∧v.wf pr:=by
 unfold qh at h
 split at h <;> try cases h
 rename_i l h1
 cases h1
 split at h <;> simp only [Option.some.injEq,Prod.mk.injEq,reduceCtorEq] at h
 rename_i y hy
 obtain ⟨_,rfl⟩:=h
 rw [zA5] at hy
 refine ⟨by simp [Instr.extract,SV.den,hy]; cases y <;> rfl,TE.wf_sv (hx y (List.mem_of_getElem? hy))⟩
theorem plain_den {x:SC} {y:Value} (h:qq x=some y):x.den ρ=y:=by cases x <;> simp_all [qq,SC.den]
theorem if_ok {t:TypeId} {x v:SV} {p:Prop} (h:qj t (zG2 P t) (some x)=some (p,v)):(Instr.makeInterface t (x.den ρ)).run P w=.ok (v.den ρ) w∧v.wf pr:=by
 cases ht:zG2 P t with
 | none=>rw [ht] at h; simp [qj] at h
 | some ti =>
  rw [ht] at h
  obtain ⟨_,d,_,fs,ei,_,hu,_,hfs,hei,rfl⟩:=zD2 ht
  unfold qj at h
  split at h <;> try cases h
  rename_i k ik x h1 h2
  cases h2
  simp only [Option.some.injEq,TI.mk.injEq] at h1
  obtain ⟨_,_,_,_,_,_,hk,_⟩:=h1
  split at h
  ·cases h
  rename_i h8
  split at h <;> simp only [Option.some.injEq,Prod.mk.injEq,reduceCtorEq] at h
  rename_i y hy
  obtain ⟨_,rfl⟩:=h
  refine ⟨?_,trivial⟩
  cases d with
  | interface ms=>exact absurd hk.symm h8
  | _=>simp [Instr.makeInterface,zC9 hu,SV.den,plain_den (ρ:=ρ) hy]; rfl
end
end Go.Proofs.YtfpeholdlkfmoaaGreatDoor
/- Building a struct out of its parts; all operations that only compute or read, in one law. -/
namespace Go.Proofs.YtfpeholdlkfmoaaGreatDoor
set_option linter.unusedSimpArgs false
set_option linter.unusedVariables false
open Go.RowKit
section
variable {P:Program} {en:List EN} {ev:Operand→Option SV} {rv:Operand→Value} {ρ:Nat→RE} {pr:Nat→Prop} {w:World}
theorem layN_fold:∀ (ys:List Value) (o k:Nat) (cur:List Value),o+k+ys.length≤cur.length∨ys=[] →
  (ys.toArray.zipIdx k).foldl (fun cs (c,j)=>cs.setIfInBounds (o+j) c) cur.toArray=(cur.take (o+k)++ys++cur.drop (o+k+ys.length)).toArray
 | [],o,k,cur,_=>by
  have h:(([]:List Value).toArray).zipIdx k=#[]:=by apply Array.ext <;> simp
  rw [h]; simp
 | y :: ys,o,k,cur,hle=>by
  have hle':o+k+(ys.length+1)≤cur.length:=by
   rcases hle with h | h
   ·exact h
   ·cases h
  have h3:=layN_fold ys o (k+1) (cur.set (o+k) y) (by left; rw [List.length_set]; omega)
  have e1:(y :: ys).toArray.zipIdx k=((y,k) :: (ys.zipIdx (k+1))).toArray:=by simp
  have e2:ys.toArray.zipIdx (k+1)=(ys.zipIdx (k+1)).toArray:=by simp
  rw [e2] at h3
  rw [e1]
  simp only [List.size_toArray,List.foldl_toArray',List.foldl_cons,List.setIfInBounds_toArray] at h3 ⊢
  rw [h3]
  congr 1
  have h5:(cur.set (o+k) y).take (o+(k+1))=cur.take (o+k)++[y]:=by
   rw [← Nat.add_assoc,List.take_succ_eq_append_getElem (by rw [List.length_set]; omega),List.take_set_of_le (Nat.le_refl _),List.getElem_set_self]
  rw [h5,List.drop_set_of_lt (by omega)]
  simp [Nat.add_assoc,Nat.add_comm 1]
theorem one_cells {y:SC} (h:q0t y=true):(SV.den ρ (.c y)).cells=(zC1 ρ [y]).toArray:=by
 cases y with
 | v x=>cases x <;> simp_all [q0t,Value.oneCell',SV.den,SC.den,zC1,Value.cells]
 | rw c n=>obtain ⟨q,k,hq⟩:=rwOf_sl (ρ c) n; simp [SV.den,SC.den,zC1,hq,Value.cells]
 | u=>cases h
 | _=>rfl
theorem layN_ok (pl:Nat→Option (Nat × Nat)) {i o sz:Nat} {x:Value} {ys l l':List SC} (rest:List (Nat × Value)) (hpl:pl i=some (o,sz)) (hx:x.cells=(zC1 ρ ys).toArray) (hsz:sz=ys.length) (h:zC o ys l=some l') :
  Instr.fill pl (zC1 ρ l).toArray ((i,x) :: rest)=Instr.fill pl (zC1 ρ l').toArray rest:=by
 obtain ⟨h1,h2⟩:=zL9 h
 have hle:o+ys.length≤l.length∨ys=[]:=h2.imp id (·.1)
 have jB:x.cells.size=ys.length:=by rw [hx]; simp [zC1]
 have key:(x.cells.zipIdx.foldl (fun cs (c,j)=>cs.setIfInBounds (o+j) c) (zC1 ρ l).toArray)=(zC1 ρ l').toArray:=by
  rw [hx]
  have h4:=layN_fold (zC1 ρ ys) o 0 (zC1 ρ l) (by simpa [zC1] using hle)
  simp only [Nat.add_zero] at h4
  rw [h4,h1]
  simp [zC1,List.map_take,List.map_drop]
 have hif:¬ (x.cells.size ≠ sz∨o+x.cells.size > (zC1 ρ l).toArray.size):=by
  rw [jB,hsz]
  simp [zC1]
  rcases h2 with h2 | ⟨rfl,h3⟩
  ·exact h2
  ·simpa using h3
 rw [Instr.fill]
 simp only [hpl]
 rw [if_neg (by simpa using hif),key]
theorem fill_ok (fs:List (Nat × Nat × Bool)) (hev:∀ x u,ev x=some u→rv x=u.den ρ∧u.wf pr) (pl:Nat→Option (Nat × Nat)) (hpl:∀ j y,fs[j]?=some y→pl j=some (y.1,y.2.1)) :
  ∀ (ps:List (Nat × Operand)) (z l:List SC),qg fs ev ps z=some l→wfs pr z→Instr.fill pl (zC1 ρ z).toArray (ps.map fun x=>(x.1,rv x.2))=some (zC1 ρ l).toArray∧wfs pr l
 | [],z,l,h,hz=>by simp [qg] at h; subst h; exact ⟨by simp [Instr.fill],hz⟩
 | (i,x) :: ps,z,l,h,hz=>by
  simp only [qg] at h
  split at h <;> try cases h
  rename_i o sz ag hn
  rw [zA5] at hn
  split at h <;> try cases h
  ·rename_i y hx
   obtain ⟨e1,e2⟩:=hev _ _ hx
   split at h <;> try cases h
   rename_i hone
   split at h <;> try cases h
   rename_i hsz
   split at h <;> try cases h
   rename_i l' hl
   obtain ⟨h1,_⟩:=zL9 hl
   have hz':wfs pr l':=by
    intro q hq
    rw [h1] at hq
    simp only [List.mem_append,List.mem_singleton] at hq
    rcases hq with (hq | rfl) | hq
    ·exact hz q (List.mem_of_mem_take hq)
    ·exact e2
    ·exact hz q (List.mem_of_mem_drop hq)
   obtain ⟨r1,r2⟩:=fill_ok fs hev pl hpl ps l' l h hz'
   refine ⟨?_,r2⟩
   rw [List.map_cons,layN_ok pl _ (hpl i _ hn) (ys:=[y]) (by rw [e1]; exact one_cells hone) hsz hl]
   exact r1
  ·rename_i ys hx
   obtain ⟨e1,e2⟩:=hev _ _ hx
   split at h <;> try cases h
   rename_i hsz
   split at h <;> try cases h
   rename_i l' hl
   obtain ⟨h1,_⟩:=zL9 hl
   have hz':wfs pr l':=by
    intro q hq
    rw [h1] at hq
    simp only [List.mem_append] at hq
    rcases hq with (hq | hq) | hq
    ·exact hz q (List.mem_of_mem_take hq)
    ·exact e2 q hq
    ·exact hz q (List.mem_of_mem_drop hq)
   obtain ⟨r1,r2⟩:=fill_ok fs hev pl hpl ps l' l h hz'
   refine ⟨?_,r2⟩
   rw [List.map_cons,layN_ok pl _ (hpl i _ hn) (ys:=ys) (by rw [e1]; rfl) hsz hl]
   exact r1
theorem build_ok {t:TypeId} {ps:List (Nat × Operand)} {v:SV} {p:Prop} (h:qf ev ps (zG2 P t)=some (p,v)) (hev:∀ x u,ev x=some u→rv x=u.den ρ∧u.wf pr) :
  (Instr.build t (ps.map fun x=>(x.1,rv x.2)).toArray).run P w=.ok (v.den ρ) w∧v.wf pr:=by
 cases ht:zG2 P t with
 | none=>rw [ht] at h; simp [qf] at h
 | some ti =>
  rw [ht] at h
  obtain ⟨i,d,z,fs,ei,hi,hu,hz,hfs,hei,rfl⟩:=zD2 ht
  unfold qf at h
  split at h <;> try cases h
  rename_i h1
  simp only [Option.some.injEq,TI.mk.injEq] at h1
  obtain ⟨_,_,rfl,rfl,_,_,hk,_⟩:=h1
  obtain ⟨fl,rfl⟩:=zR5 hk
  split at h <;> simp only [Option.some.injEq,Prod.mk.injEq,reduceCtorEq] at h
  rename_i l hl
  obtain ⟨_,rfl⟩:=h
  have hzc:zC1 ρ (z.cells.toList.map qz)=z.cells.toList:=by
   unfold zC1
   rw [List.map_map]
   have:(SC.den ρ ∘ qz)=id:=funext fun x=>zJ1 ρ x
   rw [this,List.map_id]
  have hfs':fl.toList.mapM (zO2 P)=some fs:=hfs
  obtain ⟨r1,r2⟩:=fill_ok fs hev (fun j=>(fs.map fun y=>(y.1,y.2.1)).toArray[j]?) (fun j y hy=>by simp [hy]) ps _ l hl (fun q hq=>by
   obtain ⟨u,_,rfl⟩:=List.mem_map.1 hq
   exact zM8 _ _)
  refine ⟨run_build w t _ _ ?_,r2⟩
  unfold Program.built
  simp only [hi,hu,hz,zP5 hfs']
  rw [hzc] at r1
  simpa using r1
theorem mkFs_get:∀ {n o sz j:Nat} {y:Nat × Nat × Bool},(qC n o sz)[j]?=some y→y.1=o+j * sz∧y.2.1=sz
 | 0,o,sz,j,y,h=>by simp [qC] at h
 | n+1,o,sz,0,y,h=>by simp [qC] at h; subst h; simp
 | n+1,o,sz,j+1,y,h=>by
  obtain ⟨h1,h2⟩:=mkFs_get (n:=n) (o:=o+sz) (sz:=sz) (j:=j) (y:=y) (by simpa [qC] using h)
  refine ⟨?_,h2⟩
  rw [h1,Nat.add_mul]; omega
theorem repZ_len:∀ (n:Nat) (z:List SC),(qB n z).length=n * z.length
 | 0,z=>by simp [qB]
 | n+1,z=>by simp [qB,appL_eq,repZ_len n z,Nat.add_mul]; omega
theorem repZ_get:∀ (n:Nat) (z:List SC) (j:Nat),j < n * z.length→(qB n z)[j]?=z[j % z.length]?
 | 0,z,j,h=>by simp at h
 | n+1,z,j,h=>by
  simp only [qB,appL_eq]
  by_cases hj:j < z.length
  ·rw [List.getElem?_append_left hj,Nat.mod_eq_of_lt hj]
  ·have hm:j % z.length=(j - z.length) % z.length:=Nat.mod_eq_sub_mod (by omega)
   rw [List.getElem?_append_right (by omega),repZ_get n z (j - z.length) (by rw [Nat.add_mul] at h; omega),hm]
theorem zT3 {t:TypeId} {n:Nat} {ps:List (Nat × Operand)} {el:TypeId} {l:List SC} (h:qD P ev t n ps=some (el,l)) (hev:∀ x∈ps,∀ u,ev x.2=some u→rv x.2=u.den ρ∧u.wf pr) :
  el ≠ zE8∧wfs pr l∧(Instr.buildSlice t n (ps.map fun x=>(x.1,rv x.2)).toArray).run P w=.ok (.slice (some ⟨w.heap.size,0,none⟩) n n) (w.alloc (.cells (zC1 ρ l).toArray el)):=by
 classical
 unfold qD at h
 split at h <;> try cases h
 rename_i sz0 ag0 z0 fs0 el0 es0 ik0 ht
 split at h <;> try cases h
 rename_i sz ag z fs el1 es1 kd1 ik1 he
 split at h
 ·simp only [Option.some.injEq,Prod.mk.injEq] at h
  obtain ⟨rfl,rfl⟩:=h
  obtain ⟨i,d,zv,fs',e',hi,hu,hz,_,hel,hti⟩:=zD2 ht
  simp only [TI.mk.injEq] at hti
  obtain ⟨_,_,_,_,rfl,_,hk,_⟩:=hti
  obtain ⟨el,rfl⟩:=zI1 hk.symm
  obtain ⟨i2,d2,zv2,fs2,e2,hi2,hu2,hz2,_,_,hti2⟩:=zD2 he
  have hdead:zX7 (some (TypeDesc.slice el)) ≠ zE8:=by
   intro hh
   rw [hh] at he
   have:zG2 P zE8=none:=zV2 P
   rw [this] at he; cases he
  refine ⟨hdead,(fun y hy=>nomatch hy),?_⟩
  have hsz:(sizeOf (zX7 (some (TypeDesc.slice el)))).run P w=.ok i2.size w:=zC6 hi2
  have hel':zX7 (some (TypeDesc.slice el))=el:=rfl
  rw [hel'] at hsz ⊢
  have hnr:∀ cs:Array Value,(newRow el cs).run P w=.ok ⟨w.heap.size,0,none⟩ (w.alloc (.cells cs el)):=fun _=>rfl
  have h00:∀ q:Nat→Value,Array.map q (Array.range 0)=#[]:=fun q=>by apply Array.toList_inj.1; simp
  simp [Instr.buildSlice,zC9 hu,hsz,Instr.fill,hnr,zC1,h00]
 split at h <;> try cases h
 rename_i hc
 split at h <;> simp only [Option.some.injEq,Prod.mk.injEq,reduceCtorEq] at h
 rename_i l' hl
 obtain ⟨rfl,rfl⟩:=h
 obtain ⟨i,d,zv,fs',e',hi,hu,hz,_,hel,hti⟩:=zD2 ht
 simp only [TI.mk.injEq] at hti
 obtain ⟨_,_,_,_,rfl,_,hk,_⟩:=hti
 obtain ⟨el,rfl⟩:=zI1 hk.symm
 obtain ⟨i2,d2,zv2,fs2,e2,hi2,hu2,hz2,_,_,hti2⟩:=zD2 he
 simp only [TI.mk.injEq] at hti2
 obtain ⟨rfl,_,rfl,_⟩:=hti2
 obtain ⟨hc1,hc2,hc3,hc4⟩:=hc
 rw [zB9] at hc1
 have hzl:zv2.cells.size=i2.size:=by simpa using hc1
 have hdead:zX7 (some (TypeDesc.slice el)) ≠ zE8:=by
  intro hh
  rw [hh] at he
  have:zG2 P zE8=none:=zV2 P
  rw [this] at he; cases he
 have hl2:qg (qC n 0 i2.size) (fun x=>if ∃ p∈ps,p.2=x then ev x else none) ps (qB n (zv2.cells.toList.map qz))=some l':=by
  rw [← hl]
  have cg:∀ (qs:List (Nat × Operand)) (l:List SC),(∀ q∈qs,q∈ps)→qg (qC n 0 i2.size) (fun x=>if ∃ p∈ps,p.2=x then ev x else none) qs l=qg (qC n 0 i2.size) ev qs l:=by
   intro qs
   induction qs with
   | nil=>intro l _; rfl
   | cons q qs ih =>
    intro l hq
    obtain ⟨qi,qx⟩:=q
    have h0:(if ∃ p∈ps,p.2=qx then ev qx else none)=ev qx:=if_pos ⟨(qi,qx),hq _ (by simp),rfl⟩
    simp only [qg,h0]
    simp only [ih _ (fun q hq'=>hq q (by simp [hq']))]
  exact cg ps _ (fun q hq=>hq)
 obtain ⟨r1,r2⟩:=fill_ok (rv:=rv) (ρ:=ρ) (pr:=pr) (qC n 0 i2.size) (fun x u hx=>by
  split at hx
  ·rename_i hp
   obtain ⟨p,hp1,rfl⟩:=hp
   exact hev p hp1 u hx
  ·cases hx) (fun j=>some (j * i2.size,i2.size)) (fun j y hy=>by
  obtain ⟨h1,h2⟩:=mkFs_get hy
  rw [h1,h2]; simp) ps _ l' hl2 (fun q hq=>by
  have:∀ n,∀ q∈qB n (zv2.cells.toList.map qz),q∈zv2.cells.toList.map qz:=by
   intro n
   induction n with
   | zero=>intro q hq; simp [qB] at hq
   | succ n ih =>
    intro q hq
    simp only [qB,appL_eq,List.mem_append] at hq
    exact hq.elim id (ih q)
  obtain ⟨u,_,rfl⟩:=List.mem_map.1 (this n q hq)
  exact zM8 _ _)
 refine ⟨hdead,r2,?_⟩
 have hsz:(sizeOf (zX7 (some (TypeDesc.slice el)))).run P w=.ok i2.size w:=zC6 hi2
 have hzr:(zeroValue (zX7 (some (TypeDesc.slice el)))).run P w=.ok zv2 w:=by simp [zeroValue,typeInfo,hi2,hz2]
 have hcells:((Array.range (n * i2.size)).map fun j=>zv2.cells[j % zv2.cells.size]!)=(zC1 ρ (qB n (zv2.cells.toList.map qz))).toArray:=by
  apply Array.toList_inj.1
  apply List.ext_getElem?
  intro j
  simp only [Array.toList_map,Array.toList_range,List.getElem?_map,zC1]
  by_cases hj:j < n * i2.size
  ·rw [List.getElem?_range hj,repZ_get _ _ j (by simpa [hzl] using hj)]
   have hm:j % i2.size < zv2.cells.size:=by rw [hzl]; exact Nat.mod_lt _ hc2
   simp only [Option.map_some,List.length_map,Array.length_toList,hzl,List.getElem?_map]
   rw [Array.getElem?_toList,Array.getElem?_eq_getElem hm]
   simp only [Option.map_some,zJ1,Option.some.injEq]
   exact getElem!_pos zv2.cells (j % i2.size) hm
  ·rw [List.getElem?_eq_none (by simpa using hj),List.getElem?_eq_none (by rw [repZ_len]; simpa [hzl] using hj)]
   rfl
 have hs0:¬ (n * i2.size=0):=Nat.ne_of_gt (Nat.mul_pos hc3 hc2)
 have hs1:¬ (n * i2.size > 2 ^ 24):=by omega
 have hel':zX7 (some (TypeDesc.slice el))=el:=rfl
 rw [hel'] at hsz hzr ⊢
 simp only [Instr.buildSlice,Sem.run_bind,zC9 hu,Result.andThen_ok,hsz,if_neg hs1,if_neg hs0,hzr,Sem.run_pure,hcells,r1]
 have hnr:∀ cs:Array Value,(newRow el cs).run P w=.ok ⟨w.heap.size,0,none⟩ (w.alloc (.cells cs el)):=fun _=>rfl
 rw [hnr]
 rfl
theorem caps_ok (hev:∀ x u,ev x=some u→rv x=u.den ρ∧u.wf pr):∀ (xs:List Operand) (l:List (Nat × Nat)),qk ev xs=some l→xs.map rv=l.map (fun x=>zG5 ρ x.1 x.2)∧∀ x∈l,pr x.1
 | [],l,h=>by simp [qk] at h; subst h; simp
 | x :: xs,l,h=>by
  simp only [qk] at h
  split at h <;> try cases h
  rename_i c o hx
  obtain ⟨e1,e2⟩:=hev _ _ hx
  split at h <;> simp only [Option.some.injEq,reduceCtorEq] at h
  rename_i r hr
  subst h
  obtain ⟨r1,r2⟩:=caps_ok hev xs r hr
  refine ⟨by simp [r1,e1,SV.den,SC.den],?_⟩
  intro y hy
  rcases List.mem_cons.1 hy with rfl | hy
  ·exact e2
  ·exact r2 y hy
theorem softS_ok {op:Op} {o:Oper} (ho:o.op=op) {p:Prop} {v:SV} {rd:Rd} (h:qK P rd en ev op=some (p,v)) (hp:p) (hev:∀ x u,ev x=some u→rv x=u.den ρ∧u.wf pr) (hrd:RdOk rd w) (hh:Hp ρ pr en w) (hho:Ho ρ pr en) :
  (execOp rv o).run P w=.ok (.value (v.den ρ)) w∧v.wf pr:=by
 have mv:∀ x,qO (ev x)=some (p,v)→rv x=v.den ρ∧v.wf pr:=by
  intro x hx
  cases hv:ev x with
  | none=>rw [hv] at hx; cases hx
  | some u=>rw [hv] at hx; simp only [qO,Option.some.injEq,Prod.mk.injEq] at hx; obtain ⟨_,rfl⟩:=hx; exact hev _ _ hv
 cases op <;> simp only [qK] at h <;> try (cases h; done)
 case move x=>obtain ⟨e1,e2⟩:=mv x h; exact ⟨by simp [execOp,ho,e1],e2⟩
 case assign x=>obtain ⟨e1,e2⟩:=mv x h; exact ⟨by simp [execOp,ho,e1],e2⟩
 case pick c a b =>
  split at h <;> try cases h
  rename_i x hx
  obtain ⟨e1,_⟩:=hev _ _ hx
  cases x with
  | true =>
   cases ha:ev a with
   | none=>rw [ha] at h; simp [qp] at h
   | some y =>
    rw [ha] at h
    simp only [qp,Option.some.injEq,Prod.mk.injEq] at h
    obtain ⟨_,rfl⟩:=h
    obtain ⟨e2,e3⟩:=hev _ _ ha
    have e1':rv c=.bool true:=e1
    exact ⟨by simp [execOp,ho,e1',asBool,e2],e3⟩
  | false =>
   cases hb:ev b with
   | none=>rw [hb] at h; simp [qp] at h
   | some y =>
    rw [hb] at h
    simp only [qp,Option.some.injEq,Prod.mk.injEq] at h
    obtain ⟨_,rfl⟩:=h
    obtain ⟨e2,e3⟩:=hev _ _ hb
    have e1':rv c=.bool false:=e1
    exact ⟨by simp [execOp,ho,e1',asBool,e2],e3⟩
 case build t ps =>
  obtain ⟨r1,r2⟩:=build_ok (w:=w) h hev
  refine ⟨?_,r2⟩
  have:(ps.map fun x=>(x.1,rv x.2))=(ps.toList.map fun x=>(x.1,rv x.2)).toArray:=by
   apply Array.toList_inj.1; simp
  simp [execOp,ho]
  rw [this,r1]
  simp
 case load t a =>
  cases ha:ev a with
  | none=>rw [ha] at h; simp [qP] at h
  | some x =>
   rw [ha] at h
   obtain ⟨e1,e2⟩:=hev _ _ ha
   obtain ⟨r1,r2⟩:=load_ok h e2 hrd hh
   exact ⟨by simp [execOp,ho,e1,r1],r2⟩
 case nilCheck x =>
  cases ha:ev x with
  | none=>rw [ha] at h; cases h
  | some y =>
   rw [ha] at h
   obtain ⟨e1,e2⟩:=hev _ _ ha
   unfold qQ at h
   split at h <;> simp only [Option.some.injEq,Prod.mk.injEq,reduceCtorEq] at h
   ·rename_i q; cases q; obtain ⟨_,rfl⟩:=h; exact ⟨by simp [execOp,ho,e1,SV.den,SC.den,zG5],e2⟩
   ·rename_i q; cases q; obtain ⟨_,rfl⟩:=h; exact ⟨by simp [execOp,ho,e1,SV.den,SC.den],e2⟩
 case binOp b t x y t'=>exact binV_ok h hp x y o ho (fun u hu=>(hev _ _ hu).1) (fun u hu=>(hev _ _ hu).1)
 case unOp u t x =>
  cases ha:ev x with
  | none=>rw [ha] at h; cases h
  | some y =>
   rw [ha] at h
   obtain ⟨r1,r2⟩:=un_ok (P:=P) (w:=w) (ρ:=ρ) (pr:=pr) h
   exact ⟨by simp [execOp,ho,(hev _ _ ha).1,r1],r2⟩
 case convert s t x =>
  cases ha:ev x with
  | none=>rw [ha] at h; unfold qU at h; split at h <;> first | contradiction | cases h
  | some y =>
   rw [ha] at h
   obtain ⟨r1,r2⟩:=conv_ok (w:=w) (ρ:=ρ) (pr:=pr) h
   exact ⟨by simp [execOp,ho,(hev _ _ ha).1,r1],r2⟩
 case makeInterface t x =>
  cases ha:ev x with
  | none=>rw [ha] at h; unfold qj at h; split at h <;> first | contradiction | cases h
  | some y =>
   rw [ha] at h
   obtain ⟨r1,r2⟩:=if_ok (w:=w) (ρ:=ρ) (pr:=pr) h
   exact ⟨by simp [execOp,ho,(hev _ _ ha).1,r1],r2⟩
 case makeFunc fn first cap =>
  split at h <;> try cases h
  rename_i hf
  split at h <;> simp only [Option.some.injEq,Prod.mk.injEq,reduceCtorEq] at h
  rename_i l hl
  obtain ⟨_,rfl⟩:=h
  obtain ⟨r1,r2⟩:=caps_ok hev _ _ hl
  have h1:first=#[]:=by apply Array.toList_inj.1; simpa using hf
  have h2:cap.map rv=(l.map fun x=>zG5 ρ x.1 x.2).toArray:=by apply Array.toList_inj.1; simpa using r1
  refine ⟨?_,r2⟩
  simp [execOp,ho,Instr.makeFunc,h1,h2,SV.den,SC.den]
 case slice t x lo hi mx =>
  cases mx with
  | some m=>simp only [reduceCtorEq] at h
  | none =>
   simp only at h
   cases ha:ev x with
   | none=>rw [ha] at h; unfold qZ at h; split at h <;> first | contradiction | cases h
   | some y =>
    rw [ha] at h
    obtain ⟨r1,r2⟩:=sl_ok (w:=w) (ρ:=ρ) (pr:=pr) h hp (hev _ _ ha).2 hev
    exact ⟨by simp [execOp,ho,(hev _ _ ha).1,r1],r2⟩
 case fieldAddr t x f =>
  cases ha:ev x with
  | none=>rw [ha] at h; unfold qV at h; split at h <;> first | contradiction | cases h
  | some y =>
   rw [ha] at h
   obtain ⟨r1,r2⟩:=fa_ok (w:=w) (ρ:=ρ) h (hev _ _ ha).2
   exact ⟨by simp [execOp,ho,(hev _ _ ha).1,r1],r2⟩
 case field t x f =>
  cases ha:ev x with
  | none=>rw [ha] at h; unfold qW at h; split at h <;> first | contradiction | cases h
  | some y =>
   rw [ha] at h
   obtain ⟨r1,r2⟩:=fld_ok (w:=w) (ρ:=ρ) h (hev _ _ ha).2
   exact ⟨by simp [execOp,ho,(hev _ _ ha).1,r1],r2⟩
 case indexAddr t x j =>
  cases ha:ev x with
  | none=>rw [ha] at h; unfold qX at h; split at h <;> first | contradiction | cases h
  | some y =>
   cases hb:ev j with
   | none=>rw [hb] at h; unfold qX at h; split at h <;> first | contradiction | cases h
   | some z =>
    rw [ha,hb] at h
    obtain ⟨r1,r2⟩:=ia_ok (w:=w) (ρ:=ρ) h hp (hev _ _ ha).2 hh hho
    exact ⟨by simp [execOp,ho,(hev _ _ ha).1,(hev _ _ hb).1,r1],r2⟩
 case index t x j =>
  cases ha:ev x with
  | none=>rw [ha] at h; unfold qY at h; split at h <;> first | contradiction | cases h
  | some y =>
   cases hb:ev j with
   | none=>rw [hb] at h; unfold qY at h; split at h <;> first | contradiction | cases h
   | some z =>
    rw [ha,hb] at h
    obtain ⟨r1,r2⟩:=ix_ok (w:=w) (ρ:=ρ) (pr:=pr) h hp
    exact ⟨by simp [execOp,ho,(hev _ _ ha).1,(hev _ _ hb).1,r1],r2⟩
 case extract x k =>
  cases ha:ev x with
  | none=>rw [ha] at h; cases h
  | some y =>
   rw [ha] at h
   obtain ⟨r1,r2⟩:=ext_ok (P:=P) (w:=w) (ρ:=ρ) h (hev _ _ ha).2
   exact ⟨by simp [execOp,ho,(hev _ _ ha).1,r1],r2⟩
 case call c =>
  unfold qN at h
  split at h <;> try cases h
  ·rename_i args tys
   split at h <;> try cases h
   rename_i x t hx ht
   cases ha:ev x with
   | none=>rw [ha] at h; unfold qe at h; split at h <;> first | contradiction | cases h
   | some y =>
    rw [ha] at h
    obtain ⟨r1,r2⟩:=len_ok (w:=w) (ty:=o.type) (ρ:=ρ) (pr:=pr) h
    have h1:args=#[x]:=by apply Array.toList_inj.1; simpa using hx
    have h2:tys=#[t]:=by apply Array.toList_inj.1; simpa using ht
    subst h1; subst h2
    refine ⟨?_,r2⟩
    simp [execOp,ho,resolve,invoke,builtin,(hev _ _ ha).1,r1]
  ·rename_i args tys
   split at h <;> try cases h
   rename_i x y hx
   have h1:args=#[x,y]:=by apply Array.toList_inj.1; simpa using hx
   subst h1
   unfold qn at h
   split at h <;> simp only [Option.some.injEq,Prod.mk.injEq,reduceCtorEq] at h
   rename_i k a k' b ha hb
   obtain ⟨_,rfl⟩:=h
   refine ⟨?_,trivial⟩
   have e1:=(hev _ _ ha).1
   have e2:=(hev _ _ hb).1
   simp [execOp,ho,resolve,invoke,builtin,e1,e2,SV.den,SC.den,Builtin.min_,Builtin.min2]
  ·rename_i args tys
   split at h <;> try cases h
   rename_i x y hx
   have h1:args=#[x,y]:=by apply Array.toList_inj.1; simpa using hx
   subst h1
   unfold qo at h
   split at h <;> simp only [Option.some.injEq,Prod.mk.injEq,reduceCtorEq] at h
   rename_i k a k' b ha hb
   obtain ⟨_,rfl⟩:=h
   refine ⟨?_,trivial⟩
   have e1:=(hev _ _ ha).1
   have e2:=(hev _ _ hb).1
   simp [execOp,ho,resolve,invoke,builtin,e1,e2,SV.den,SC.den,Builtin.max_,Builtin.max2]
end
end Go.Proofs.YtfpeholdlkfmoaaGreatDoor
/- The symbolic walk through code: what is left to be shown of a piece of code from a state on. -/
namespace Go.Proofs.YtfpeholdlkfmoaaGreatDoor
set_option linter.unusedSimpArgs false
set_option linter.unusedVariables false
open Go.RowKit
structure Cx where
 P:Program
 Q:Exit→Act→World→Prop
 S:Nat→Prop
 w0:World
 ρ0:Nat→RE
 n0:Nat
 kp:List Nat
 df:List Deferred
def RdP (S:Nat→Prop) (w0:World) (b o:Nat) (vs:List Value):Prop:=∀ w,Upd S w0 w→∀ (j:Nat) v,vs[j]?=some v→w.cell? ⟨b,o+j,none⟩=some v
open Classical in
noncomputable def rdOf (S:Nat→Prop) (w0:World):Rd:=fun b o n=>if h:∃ vs:List Value,vs.length=n∧RdP S w0 b o vs then some (h.choose.map qz) else none
noncomputable def Cx.rd (C:Cx):Rd:=rdOf C.S C.w0
theorem zY9 {C:Cx} {b o n:Nat} {vs:List Value} (h:RdP C.S C.w0 b o vs) (hn:vs.length=n):C.rd b o n=some (vs.map qz):=by
 unfold Cx.rd rdOf
 have hx:∃ vs:List Value,vs.length=n∧RdP C.S C.w0 b o vs:=⟨vs,hn,h⟩
 rw [dif_pos hx]
 obtain ⟨h1,h2⟩:=hx.choose_spec
 congr 2
 apply List.ext_getElem?
 intro j
 have hlen:hx.choose.length=vs.length:=by rw [h1,hn]
 rcases Nat.lt_or_ge j vs.length with hj | hj
 ·have a1:=h _ (Upd.refl _ _) j _ (List.getElem?_eq_getElem hj)
  have a2:=h2 _ (Upd.refl _ _) j _ (List.getElem?_eq_getElem (show j < hx.choose.length by omega))
  rw [a1] at a2
  rw [List.getElem?_eq_getElem hj,List.getElem?_eq_getElem (show j < hx.choose.length by omega)]
  exact a2.symm
 ·rw [List.getElem?_eq_none hj,List.getElem?_eq_none (by omega)]
theorem rd_ok {C:Cx} {w:World} (hu:Upd C.S C.w0 w):RdOk C.rd w:=by
 intro b o n l h
 unfold Cx.rd rdOf at h
 split at h
 ·rename_i hx
  obtain ⟨h1,h2⟩:=hx.choose_spec
  simp only [Option.some.injEq] at h
  exact ⟨_,h1,h.symm,fun j v hv=>h2 w hu j v hv⟩
 ·cases h
inductive KI where
 | code (c:Code)
 | blk (id:Nat)
 | ops (all r:List Oper)
def ev (sl:List (Nat × SV)):Operand→Option SV
 | .tmp t=>qy sl t
 | .const v=>some (.c (qz v))
 | .func f=>some (.c (.v (.func (.func f) #[] #[])))
 | .global _=>none
def qw (sl:List (Nat × SV)):List Operand→Option (List SV)
 | []=>some []
 | x :: r=>match ev sl x with
  | some v=>match qw sl r with
   | some l=>some (v :: l)
   | none=>none
  | none=>none
def zE7 (r:RE):Option EN→Bool
 | some ⟨(t,_),_,_⟩=>t == zE8 || r.nl.isSome
 | none=>true
theorem zB4 {r:RE} {en:List EN} {c:Nat} {ty:TypeId × Nat × (RE→Prop)} {cells:List SC} {mu:Bool} (h:zD en c=some ⟨ty,cells,mu⟩):zE7 r (zD en c)=false ↔ ty.1 ≠ zE8∧r.nl=none:=by
 rw [h]; obtain ⟨t,x⟩:=ty; simp [zE7]
def Inj (ρ:Nat→RE) (pr:Nat→Prop) (en:List EN):Prop:=∀ c d,pr c→pr d→zE7 (ρ c) (zD en c)=false→zE7 (ρ d) (zD en d)=false→(ρ c).blk=(ρ d).blk→c=d
structure Hw (C:Cx) (ρ:Nat→RE) (pr:Nat→Prop) (en:List EN) (w:World):Prop where
 hp:Hp ρ pr en w
 ho:Ho ρ pr en
 inj:Inj ρ pr en
 up:Upd C.S C.w0 w
 mu:∀ c ty cells,pr c→zD en c=some ⟨ty,cells,true⟩→C.S (ρ c).blk∨C.w0.heap.size≤(ρ c).blk
 ini:∀ c,c < C.n0→ρ c=C.ρ0 c
structure Rep (C:Cx) (ρ:Nat→RE) (nt:Nat) (sl:List (Nat × SV)) (en:List EN) (a:Act) (w:World):Prop where
 hw:Hw C ρ (· < en.length) en w
 tm:∀ d v,qy sl d=some v→a.tmps[d]?=some (v.den ρ)∧v.wf (· < en.length)
 sz:a.tmps.size=nt
 df:a.defers=C.df
 n0:C.n0≤en.length
def KQ (C:Cx):List KI→Exit→Act→World→Prop
 | []=>C.Q
 | .code c :: k=>Exit.then (c.wp C.P (KQ C k)) (KQ C k)
 | .blk id :: k=>Exit.inBlock id (KQ C k)
 | .ops all r :: k=>Exit.then (wpList C.P all.toArray (KQ C k) r) (KQ C k)
def Run (C:Cx) (k:List KI) (nt:Nat) (sl:List (Nat × SV)) (en:List EN):Prop:=
 ∀ ρ a w,Rep C ρ nt sl en a w→KQ C k .normal a w
abbrev Ctr:=Nat→List EN→List SV→Option (Prop × SV)
def zE4 (C:Cx) (ctr:Ctr):Prop:=
 ∀ f en xs p v,ctr f en xs=some (p,v)→p→∀ ρ w,Upd C.S C.w0 w→Hp ρ (· < en.length) en w→Ho ρ (· < en.length) en→Inj ρ (· < en.length) en→(∀ x∈xs,x.wf (· < en.length)) →
  (∀ args w,(callFunc f args).run C.P w=.ok (.enter f args) w)∧v.wf (· < en.length)∧Calls C.P f (xs.map (SV.den ρ)).toArray w fun e w'=>e=.returned (v.den ρ)∧Below w.heap.size w w'
def zH (id:Nat):List KI→Option (List KI)
 | []=>none
 | .blk i :: k=>if id=i then some k else zH id k
 | .code _ :: k=>zH id k
 | .ops _ _ :: k=>zH id k
def zI (l:List Nat) (d:Nat):Bool:=
 match l with
 | []=>false
 | x :: r=>if d=x then true else zI r d
def zJ (kp:List Nat):List (Nat × SV)→List (Nat × SV)
 | []=>[]
 | (d,v) :: l=>bif zI kp d then (d,v) :: zJ kp l else zJ kp l
def zF {α:Type}:List α→α→List α
 | [],y=>[y]
 | x :: l,y=>x :: zF l y
theorem zE0 {α:Type}:∀ (l:List α) (y:α),zF l y=l++[y]
 | [],_=>rfl
 | x :: l,y=>by simp [zF,zE0 l y]
def qu:List SC→Bool
 | []=>true
 | x :: l=>bif q0t x then qu l else false
theorem zW7:∀ {l:List SC},qu l=true→∀ x∈l,q0t x=true
 | [],_,_,h=>nomatch h
 | x :: l,h,y,hy=>by
  simp only [qu,cond_eq_ite] at h
  split at h
  ·rename_i hx
   rcases List.mem_cons.1 hy with rfl | hy
   ·exact hx
   ·exact zW7 h y hy
  ·cases h
def qv:SV→Option (List SC)
 | .c x=>bif q0t x then some [x] else none
 | .g l=>bif qu l then some l else none
 | .t _=>none
def qI (nt:Nat) (K:List (Nat × SV)→List EN→Prop) (stop:Prop) (dst:Option Nat) (v:SV) (sl:List (Nat × SV)) (en:List EN):Prop:=
 match dst with
 | some d=>if d < nt then K ((d,v) :: sl) en else stop
 | none=>K sl en
def qJ (K:List EN→Prop) (stop:Prop) (en:List EN):Option TI→Option SV→Option SV→Prop
 | some ⟨sz,_,_,_,_,_,_,_⟩,some (.c (.p c o)),some v=>match zD en c with
  | some ⟨ty,cells,true⟩=>match qv v with
   | some vs=>if zG vs=sz then (match zC o vs cells with
    | some l=>K (zE en c ⟨ty,l,true⟩)
    | none=>stop) else stop
   | none=>stop
  | _=>stop
 | _,_,_=>stop
def qH (P:Program) (rd:Rd) (ctr:Ctr) (nt:Nat) (K:List (Nat × SV)→List EN→Prop) (stop:Prop) (dst:Option Nat) (sl:List (Nat × SV)) (en:List EN):Op→Prop
 | .alloc t=>match zG2 P t with
  | some ⟨_,_,z,_,_,_,_,_⟩=>qI nt K stop dst (.c (.p (zG en) 0)) sl (zF en ⟨(t,0,whole),z,true⟩)
  | none=>stop
 | .box t x=>match ev sl x with
  | some v=>match qv v with
   | some l=>if t=4294967295 then stop else qI nt K stop dst (.c (.p (zG en) 0)) sl (zF en ⟨(t,0,whole),l,true⟩)
   | none=>stop
  | none=>stop
 | .buildSlice t n ps=>match qD P (ev sl) t n ps.toList with
  | some (el,l)=>qI nt K stop dst (.c (.sl (zG en) 0 n n)) sl (zF en ⟨(el,0,whole),l,true⟩)
  | none=>stop
 | .store t a x=>match dst with
  | none=>qJ (K sl) stop en (zG2 P t) (ev sl a) (ev sl x)
  | some _=>stop
 | .call ⟨.value (.func f),args,_⟩=>match qw sl args.toList with
  | some xs=>match ctr f en xs with
   | some (p,v)=>p∧qI nt K stop dst v sl en
   | none=>stop
  | none=>stop
 | op=>match qK P rd en (ev sl) op with
  | some (p,v)=>p∧qI nt K stop dst v sl en
  | none=>stop
def qF:SV→Option TE
 | .c x=>some (.c x)
 | .g l=>some (.g l)
 | .t _=>none
def qE (P:Program) (sl:List (Nat × SV)) (en:List EN):List ResultVar→Option (List TE)
 | []=>some []
 | .tmp t :: r=>match qy sl t with
  | some v=>match qF v with
   | some x=>match qE P sl en r with
    | some l=>some (x :: l)
    | none=>none
   | none=>none
  | none=>none
 | .cell b t :: r=>match qP noRd en (qy sl b) (zG2 P t) with
  | some (_,v)=>match qF v with
   | some x=>match qE P sl en r with
    | some l=>some (x :: l)
    | none=>none
   | none=>none
  | none=>none
def qG:List TE→SV
 | [x]=>x.sv
 | l=>.t l
def resG (tmps:Array Value):ResultVar→Sem Value
 | .tmp t=>pure (tmps.getD t undef)
 | .cell b t=>do loadVar t (← asAddr (tmps.getD b undef))
def Fin (C:Cx) (rs:List ResultVar) (v:SV) (en:List EN):Prop:=
 ∀ ρ a w,Hw C ρ (· < en.length) en w→C.n0≤en.length→v.wf (· < en.length)→a.defers=C.df→(∀ fn:Func,fn.results.toList=rs→(results fn a.tmps).run C.P w=.ok (v.den ρ) w)→C.Q .ret a w
def VC (C:Cx) (ctr:Ctr) (rs:List ResultVar):Nat→List KI→Nat→List (Nat × SV)→List EN→Prop
 | 0,k,nt,sl,en=>Run C k nt sl en
 | _+1,[],nt,sl,en=>Run C [] nt sl en
 | n+1,.blk _ :: k,nt,sl,en=>VC C ctr rs n k nt sl en
 | n+1,.ops _ [] :: k,nt,sl,en=>VC C ctr rs n k nt (zJ C.kp sl) en
 | n+1,.ops all (⟨dst,op,ty,pos,af,none⟩ :: r) :: k,nt,sl,en =>
  qH C.P C.rd ctr nt (VC C ctr rs n (.ops all r :: k) nt) (Run C (.ops all (⟨dst,op,ty,pos,af,none⟩ :: r) :: k) nt sl en) dst sl en op
 | n+1,.ops all (⟨dst,op,ty,pos,af,some (j,b)⟩ :: r) :: k,nt,sl,en =>
  match zD all j with
  | some ⟨some d,_,_,_,_,_⟩=>match qy sl d with
   | some (.c (.b x)) =>
    (x=b→qH C.P C.rd ctr nt (VC C ctr rs n (.ops all r :: k) nt) (Run C (.ops all (⟨dst,op,ty,pos,af,some (j,b)⟩ :: r) :: k) nt ((d,.c (.b b)) :: sl) en) dst ((d,.c (.b b)) :: sl) en op) ∧
    (x=(!b)→qI nt (VC C ctr rs n (.ops all r :: k) nt) (Run C (.ops all (⟨dst,op,ty,pos,af,some (j,b)⟩ :: r) :: k) nt sl en) dst (.c .u) ((d,.c (.b !b)) :: sl) en)
   | some (.c .u)=>qI nt (VC C ctr rs n (.ops all r :: k) nt) (Run C (.ops all (⟨dst,op,ty,pos,af,some (j,b)⟩ :: r) :: k) nt sl en) dst (.c .u) sl en
   | _=>Run C (.ops all (⟨dst,op,ty,pos,af,some (j,b)⟩ :: r) :: k) nt sl en
  | _=>Run C (.ops all (⟨dst,op,ty,pos,af,some (j,b)⟩ :: r) :: k) nt sl en
 | n+1,.code .skip :: k,nt,sl,en=>VC C ctr rs n k nt sl en
 | n+1,.code (.seq a b) :: k,nt,sl,en=>VC C ctr rs n (.code a :: .code b :: k) nt sl en
 | n+1,.code (.block id c) :: k,nt,sl,en=>VC C ctr rs n (.code c :: .blk id :: k) nt sl en
 | n+1,.code (.exit id) :: k,nt,sl,en=>match zH id k with
  | some k'=>VC C ctr rs n k' nt sl en
  | none=>Run C (.code (.exit id) :: k) nt sl en
 | n+1,.code (.cond c a b) :: k,nt,sl,en=>match ev sl c with
  | some (.c (.b x))=>(x=true→VC C ctr rs n (.code a :: k) nt sl en)∧(x=false→VC C ctr rs n (.code b :: k) nt sl en)
  | _=>Run C (.code (.cond c a b) :: k) nt sl en
 | n+1,.code (.region _ ops false) :: k,nt,sl,en=>VC C ctr rs n (.ops ops.toList ops.toList :: k) nt sl en
 | _+1,.code .ret :: k,nt,sl,en=>match qE C.P sl en rs with
  | some l=>Fin C rs (qG l) en
  | none=>Run C (.code .ret :: k) nt sl en
 | _+1,k,nt,sl,en=>Run C k nt sl en
end Go.Proofs.YtfpeholdlkfmoaaGreatDoor
