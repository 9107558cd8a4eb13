/- TopNear: part Pae: MapKit2 Kit4 DiskA Ix IxG. -/
import Derived.Test.YtdjiopacieadpaaGreatDoorPad
import Derived.Deep.MidRow
import Derived.Deep.LoopGhost
import Derived.WalkMore
set_option linter.unusedVariables false
set_option linter.unusedSimpArgs false
set_option maxRecDepth 8000
set_option maxHeartbeats 8000000
namespace Go.Proofs.YtdjiopacieadpaaGreatDoor
section
open Go.RowKit Go.Maps Go.ChangeMaps Go.MapKept
theorem Mf.entryI {w:World}{q:IntKind}{k t e:TypeId}{b n:Nat}{f:Int→Option Value}(h:Mf w q k b n f)(hk:Tryz.prog.underlying k=some (.int q))(ht:Tryz.prog.underlying t=some (.map k e))(hn:n<maxLen){z:Value}(hz:∀u:World,(zeroValue e).run Tryz.prog u = .ok z u){i:Int}(hi:(Lit.int q i).wf = true):
 ∃(v0 st:Value) (o1:Obj),(Instr.mapEntry t (.map (some b)) (.int q i)).run Tryz.prog w = .ok (.tuple #[v0,st]) (setBlock w b o1)∧
  ∀(w2:World) (v:Value),w2.heap[b]?=some o1→ ∃o2,(Instr.entryStore t (.map (some b)) st v).run Tryz.prog w2 = .ok () (setBlock w2 b o2)∧(∃es c,o1 = .map es c)∧ ∀w3:World,w3.heap[b]?=some o2→Mf w3 q k b (n+1) (upd f i v):=by
 have h0:=h;obtain ⟨D,h1,h2⟩:=h;obtain ⟨es,clock,hb,F,hs,hD⟩:=h1;have K:=int_keyed hk;have hkey:=keyOf_int_mk (P:=Tryz.prog) hk hi;obtain ⟨s1,s2,_⟩:=F.stamped;have last:∀(w2:World) (v:Value) (o2:Obj),(Instr.mapUpdate t (.map (some b)) (.int q i) v).run Tryz.prog w = .ok () (setBlock w b o2)→ ∀w3:World,w3.heap[b]?=some o2→Mf w3 q k b (n+1) (upd f i v):=by
  intro w2 v o2 hr w3 hw3;obtain ⟨w',u1,u2,_⟩:=h0.update (q:=q) hk ht hn hi v;rw [hr] at u1;injection u1 with _ u1;subst u1;exact u2.stay (by rw [hw3,heap_setBlock_same hb])
 rcases K.find w hkey es.toList F.keys with ⟨g1,g2⟩ | ⟨j,e0,g1,g2,g3⟩
 ·refine ⟨z,goInt clock,.map (es.push ⟨.int q i,z,clock⟩) (clock+1),?_,fun w2 v hw2=>⟨.map (es.push ⟨.int q i,v,clock⟩) (clock+1),?_,⟨_,_,rfl⟩,last w2 v _ ?_⟩⟩
  ·simp [Instr.mapEntry,run_underlying ht,MapKept.run_getObj_map hb,K.check w false hkey,g1,hz,MapKept.run_setObj_map _ hb,Result.andThen,setBlock]
  ·have hidx:(es.push ⟨.int q i,z,clock⟩).findIdx? (fun e=>((e.born:Nat):Int) == ((clock:Nat):Int))=some es.size:=by
    rw [WideElems.findIdx_arr];refine WideElems.findIdx_born (l:=(es.push ⟨.int q i,z,clock⟩).toList) (j:=es.size) (e0:=⟨.int q i,z,clock⟩) ?_ (by simp);rw [Array.toList_push,List.map_append];refine List.nodup_append.2 ⟨s2,by simp,fun a ha c hc hac=>?_⟩;simp only [List.map_cons,List.map_nil,List.mem_singleton] at hc;obtain ⟨x,hx,rfl⟩:=List.mem_map.1 ha;have:=s1 x hx;omega
   have hmod:(es.push ⟨.int q i,z,clock⟩).modify es.size (fun e=>{e with val:=v})=es.push ⟨.int q i,v,clock⟩:=by
    apply Array.ext';rw [Array.toList_modify,Array.toList_push,Array.toList_push,←Array.length_toList,WideElems.modify_last]
   simp [Instr.entryStore,MapKept.run_getObj_map hw2,asInt,asIntOf,goInt,hidx,hmod,MapKept.run_setObj_map _ hw2,Result.andThen,setBlock]
  ·simp [Instr.mapUpdate,run_underlying ht,MapKept.run_getObj_map hb,K.check w false hkey,g1,MapKept.run_setObj_map _ hb,Result.andThen,setBlock]
 ·have hj:es[j]?=some e0:=by simpa using g2
  have hsame:es.modify j (fun e=>{e with key:= .int q i})=es:=by
   apply Array.ext';rw [Array.toList_modify,modify_eq_set _ _ _ _ g2];have:({e0 with key:= .int q i}:MapEntry)=e0:=by rw [←g3]
   rw [this];exact WideElems.set_self _ _ _ g2
  refine ⟨e0.val,goInt e0.born,.map es clock,?_,fun w2 v hw2=>⟨.map (es.modify j (fun e'=>{e' with key:= .int q i,val:=v})) clock,?_,⟨_,_,rfl⟩,last w2 v _ ?_⟩⟩
  ·simp [Instr.mapEntry,run_underlying ht,MapKept.run_getObj_map hb,K.check w false hkey,g1,hj,g3,K.stays w hkey,hsame,MapKept.run_setObj_map _ hb,Result.andThen,setBlock]
  ·have hidx:es.findIdx? (fun e=>((e.born:Nat):Int) == ((e0.born:Nat):Int))=some j:=by
    rw [WideElems.findIdx_arr];exact WideElems.findIdx_born s2 g2
   have hmod:es.modify j (fun e=>{e with val:=v})=es.modify j (fun e'=>{e' with key:= .int q i,val:=v}):=by
    apply Array.ext';rw [Array.toList_modify,Array.toList_modify,modify_eq_set _ _ _ _ g2,modify_eq_set _ _ _ _ g2,←g3]
   simp [Instr.entryStore,MapKept.run_getObj_map hw2,asInt,asIntOf,goInt,hidx,hmod,MapKept.run_setObj_map _ hw2,Result.andThen,setBlock]
  ·simp [Instr.mapUpdate,run_underlying ht,MapKept.run_getObj_map hb,K.check w false hkey,g1,hj,g3,K.stays w hkey,MapKept.run_setObj_map _ hb,Result.andThen,setBlock]
end
section
open Go.RowKit
structure Step (F G:Nat→Prop)(w w':World):Prop where
 kp:Kp F w w'
 sub:∀b,G b→F b∨w.heap.size≤b
 lt:∀b,G b→b<w'.heap.size
theorem Step.trans {F G H:Nat→Prop}{a b c:World}(h:Step F G a b)(k:Step G H b c):Step F H a c:=
 ⟨h.kp.then k.kp (fun i hi=>h.sub i hi),fun i hi=>by
  rcases k.sub i hi with e | e
  ·exact h.sub i e
  ·exact Or.inr (Nat.le_trans h.kp.size e),k.lt⟩
theorem Step.new {F:Nat→Prop}{w w':World}(h:Below w.heap.size w w')(hl:∀b,F b→b<w.heap.size):Step F F w w':=
 ⟨Kp.of_new h,fun b hb=>Or.inl hb,fun b hb=>Nat.lt_of_lt_of_le (hl b hb) h.size⟩
theorem Step.refl {F:Nat→Prop}{w:World}(hl:∀b,F b→b<w.heap.size):Step F F w w:=⟨Kp.refl F w,fun b hb=>Or.inl hb,hl⟩
theorem Step.below {F G:Nat→Prop}{a b c:World}(h:Step F G a b)(k:Below b.heap.size b c):Step F G a c:=
 h.trans (Step.new k h.lt)
theorem setCells_vals (b:Nat):∀(vs:List Value) (w:World) (o:Nat),w.setCells b o vs=setVals w b o vs
 | [],_,_=>rfl
 | v::vs,w,o=>setCells_vals b vs _ _
theorem setVals_size (R:Nat):∀(vs:List Value) (w:World) (i:Nat),(setVals w R i vs).heap.size = w.heap.size
 | [],_,_=>rfl
 | v::vs,w,i=>(setVals_size R vs _ _).trans (by simp)
theorem wpList_store_all {ops:Array Oper}{rest:List Oper}{op:Oper}{a:Act}{w:World}{Q:Exit→Act→World→Prop}(hgd:op.guard=none)(ty:TypeId)(x y:Operand)(ho:op.op = .store ty x y)(b:Nat)(t:TypeId)(C cells:Array Value)(hx:a.eval x = .pointer (some ⟨b,0,none⟩))(hy:a.eval y = .agg cells)(hb:w.heap[b]?=some (.cells C t (0,0)))(hs:cells.size=C.size)(hi:(Tryz.prog.info? ty).map (·.size)=some cells.size)(h1:cells.all (·.oneCell')=true)(h:∀w',w'.heap[b]?=some (.cells cells t (0,0))→w'.heap.size=w.heap.size→Kp (· = b) w w'→wpList Tryz.prog ops Q rest (a.put op.dst undef) w'):wpList Tryz.prog ops Q (op::rest) a w:=by
 have hbl:=blk hb;refine wpList_store_mid hgd ty x y ho b 0 cells hx hy (fun j hj=>?_) hi h1 ?_
 ·rw [Nat.zero_add,hbl.1 j];exact ⟨by rw [Array.getElem?_eq_getElem (by omega)];rfl,hbl.2.1 j⟩
 ·rw [setCells_vals];refine h _ ?_ (setVals_size b _ _ _) (setVals_kp (F:=(· = b)) rfl _ _ _ _ (Kp.refl _ _));have:=setVals_full (vs:=cells.toList) hb (by simpa using hs);simpa using this
end
section
open Go.RowKit Go.ChangeMaps Go.MapKept
theorem setB_same {w:World}{b:Nat}(h:b<w.heap.size)(o:Obj):(setBlock w b o).heap[b]?=some o:=by simp [setBlock,h]
theorem setB_other {w:World}{b i:Nat}(h:i≠b)(o:Obj):(setBlock w b o).heap[i]?=w.heap[i]? :=by simp [setBlock,Array.getElem?_setIfInBounds_ne (Ne.symm h)]
theorem setB_size {w:World}{b:Nat}(o:Obj):(setBlock w b o).heap.size = w.heap.size:=by simp [setBlock]
theorem setB_kp {F:Nat→Prop}{w0 w:World}{b:Nat}(h:Kp F w0 w)(hb:F b)(o:Obj):Kp F w0 (setBlock w b o):=
 h.trans ⟨rfl,rfl,rfl,by rw [setB_size];exact Nat.le_refl _,fun k _ hn=>setB_other (fun e=>hn (by rw [e];exact hb)) o⟩
theorem heap_setCell_ne (w:World)(p:Addr)(v:Value){k:Nat}(h:k≠p.block):(w.setCell p v).heap[k]?=w.heap[k]? :=heap_setCell_other w p k v h
theorem cell_size (w:World)(p:Addr)(v:Value):(w.setCell p v).heap.size = w.heap.size:=by simp
theorem info190:(Tryz.prog.info? 190).map (fun i=>(i.zero,i.size,i.bytes))=some (some (.agg #[.int .i64 0,.slice none 0 0]),2,32):=by kernel_rfl
def wrote (w:World)(d m:Nat)(v:Value)(o1 o2:Obj):World:=setBlock (setBlock (w.setCell ⟨d,2,none⟩ v) m o1) m o2
structure Written (w w1:World)(d z:Nat)(s:Dst)(F:Nat→Prop)(secs:List Nat)(dv rv V:Value)(m:Nat)(ents:List (Nat×Value×List Nat))(i:Nat)(l:List Nat)(v':Value)(B:Nat)(v0 st:Value)(o1 o2:Obj):Prop where
 c2:w1.cell? ⟨d,2,none⟩=some rv
 f2:w1.frozen? ⟨d,2,none⟩=false
 blk:w1.heap[d]?=w.heap[d]?
 r1:(Instr.mapEntry 138 (.map (some m)) (.int .i64 i)).run Tryz.prog (w1.setCell ⟨d,2,none⟩ V) = .ok (.tuple #[v0,st]) (setBlock (w1.setCell ⟨d,2,none⟩ V) m o1)
 r2:(Instr.entryStore 138 (.map (some m)) st v').run Tryz.prog (setBlock (w1.setCell ⟨d,2,none⟩ V) m o1) = .ok () (wrote w1 d m V o1 o2)
 dk:DkP (wrote w1 d m V o1 o2) d z {s with row:=s.row++[(i,l)]} (fun b=>F b∨(B≤b∧b<w1.heap.size)) secs dv V m (ents++[(i,v',l)])
 kp:Kp (fun b=>F b∨B≤b) w (wrote w1 d m V o1 o2)
 sz:(wrote w1 d m V o1 o2).heap.size = w1.heap.size
theorem DkP.written {w:World}{d z:Nat}{s:Dst}{F:Nat→Prop}{secs:List Nat}{dv rv:Value}{m:Nat}{ents:List (Nat×Value×List Nat)}(h:DkP w d z s F secs dv rv m ents){i:Nat}{l:List Nat}(hi:i<secs.length)(hn96:secs.length≤96)(hel:ents.length<100000)(hll:l.length=z)(hbs:Bs l){v':Value}{B:Nat}(hv:w.ownsRow B 5 1 v' z (Lb l))(hBF:∀b,F b→b<B)(hBw:B≤w.heap.size){w1:World}{g cap:Nat}(hown:w1.ownsRow 0 190 2 (.slice (some ⟨g,0,none⟩) (ents.length+1) cap) (ents.length+1) (ents.flatMap entC++[.int .i64 i,v']))(hgrow:w.grownBy w1 rv.ownBlock)(hat:rv.ownBlock=some g∨B≤g)(hlt:g<w1.heap.size):
 ∃v0 st o1 o2,Written w w1 d z s F secs dv rv (.slice (some ⟨g,0,none⟩) (ents.length+1) cap) m ents i l v' B v0 st o1 o2:=by
 obtain ⟨f1,f2,f3,f4,f5⟩:=h.hF;have hz:=h.hz;obtain ⟨ms,mc,hm⟩:=h.hmp.isMap;have hrF:∀k,rv.ownBlock=some k→F k:=f5;have hkeep:∀k,k<w.heap.size→rv.ownBlock≠some k→w1.heap[k]?=w.heap[k]? :=fun k hk hn=>hgrow.block k hk (fun e=>hn e.symm)
 have hrd:rv.ownBlock≠some d:=fun e=>by obtain ⟨C,hC⟩:=own_ty h.hrv e;exact ty_ne hC h.hd (by decide) rfl
 have hrm:rv.ownBlock≠some m:=fun e=>by obtain ⟨C,hC⟩:=own_ty h.hrv e;exact map_ne hC hm rfl
 have hrs:∀b C,w.heap[b]?=some (Obj.cells C 5 (0,0))→rv.ownBlock≠some b:=fun b C hb e=>by obtain ⟨D,hD⟩:=own_ty h.hrv e;exact ty_ne hD hb (by decide) rfl
 have hdl:=h.hlt d f1;have hml:=h.hlt m f2;have hdm:d≠m:=map_ne h.hd hm;have hgd:g≠d:=by
  rcases hat with e | e
  ·intro e2;subst e2;exact hrd e
  ·have:=hBF d f1;omega
 have hgm:g≠m:=by
  rcases hat with e | e
  ·intro e2;subst e2;exact hrm e
  ·have:=hBF m f2;omega
 have hd1:w1.heap[d]?=w.heap[d]? :=hkeep d hdl hrd;have hm1:w1.heap[m]?=w.heap[m]? :=hkeep m hml hrm;have hbl:=blk (hd1.trans h.hd);have hM2:Mf (w1.setCell ⟨d,2,none⟩ (.slice (some ⟨g,0,none⟩) (ents.length+1) cap)) .i64 3 m ents.length (lastV ents):=(h.hmp.stay hm1).set (p:=⟨d,2,none⟩) (Ne.symm hdm) _;obtain ⟨v0,st,o1,r1,r2⟩:=hM2.entryI (t:=138) (e:=34) Tryz.underlying3 Tryz.underlying138 (by unfold maxLen;omega) zero34 (wf_nat (i:=i) (by omega));have hs2:m<(w1.setCell ⟨d,2,none⟩ (.slice (some ⟨g,0,none⟩) (ents.length+1) cap)).heap.size :=by rw [cell_size];have:=hgrow.size;omega
 obtain ⟨o2,r3,_,r4⟩:=r2 (setBlock (w1.setCell ⟨d,2,none⟩ (.slice (some ⟨g,0,none⟩) (ents.length+1) cap)) m o1) v' (setB_same hs2 o1);have hother:∀k,k≠d→k≠m→(wrote w1 d m (.slice (some ⟨g,0,none⟩) (ents.length+1) cap) o1 o2).heap[k]?=w1.heap[k]? :=by
  intro k k1 k2;unfold wrote;rw [setB_other k2,setB_other k2,heap_setCell_ne _ _ _ k1]
 have hsz:(wrote w1 d m (.slice (some ⟨g,0,none⟩) (ents.length+1) cap) o1 o2).heap.size = w1.heap.size:=by unfold wrote;rw [setB_size,setB_size,cell_size]
 have h5:∀b C,w.heap[b]?=some (Obj.cells C 5 (0,0))→(wrote w1 d m (.slice (some ⟨g,0,none⟩) (ents.length+1) cap) o1 o2).heap[b]?=w.heap[b]? :=fun b C hb=>by
  rw [hother b (ty_ne hb h.hd (by decide)) (map_ne hb hm),hkeep b (heap_lt hb) (hrs b C hb)]
 have own5:∀{Bx:Nat} {u:Value} {n:Nat} {xs:List Value},w.ownsRow Bx 5 1 u n xs→(wrote w1 d m (.slice (some ⟨g,0,none⟩) (ents.length+1) cap) o1 o2).ownsRow Bx 5 1 u n xs:=by
  intro Bx u n xs hu;refine ⟨hu.1,?_⟩;rcases hu.2 with h2 | ⟨g',cap',cur',e1,e2,e3,r⟩
  ·exact Or.inl h2
  ·exact Or.inr ⟨g',cap',cur',e1,e2,by rw [h5 g' _ e3];exact e3,r⟩
 have hkp1:Kp (fun b=>F b∨B≤b) w w1:=(Kp.refl _ w).grown hgrow (fun k e=>Or.inl (Or.inl (hrF k e)));refine ⟨v0,st,o1,o2,hbl.1 2,hbl.2.1 2,hd1,r1,r3,?_,?_,hsz⟩
 ·refine ⟨?_,?_,h.hlen,?_,h.hnd,?_,?_,?_,?_,?_,hz,?_⟩
  ·have:(w1.setCell ⟨d,2,none⟩ (.slice (some ⟨g,0,none⟩) (ents.length+1) cap)).heap[d]?=some (Obj.cells #[.int .i64 z,dv,.slice (some ⟨g,0,none⟩) (ents.length+1) cap,.map (some m)] 140 (0,0)):=heap_setCell_same _ d 2 _ 140 _ (hd1.trans h.hd);unfold wrote;rw [setB_other hdm,setB_other hdm];exact this
  ·refine ⟨h.hdv.1,?_⟩;rcases h.hdv.2 with h2 | ⟨g',cap',cur',e1,e2,e3,r⟩
   ·exact Or.inl h2
   ·refine Or.inr ⟨g',cap',cur',e1,e2,?_,r⟩;have:rv.ownBlock≠some g':=fun e=>by obtain ⟨D,hD⟩:=own_ty h.hrv e;exact ty_ne hD e3 (by decide) rfl
    rw [hother g' (ty_ne e3 h.hd (by decide)) (map_ne e3 hm),hkeep g' (heap_lt e3) this];exact e3
  ·intro k b lb hb hlb;obtain ⟨a1,a2⟩:=h.hsec k b lb hb hlb;exact ⟨by rw [h5 b _ a1];exact a1,a2⟩
  ·simp [h.hrow]
  ·have e1:(ents++[(i,v',l)]).flatMap entC=ents.flatMap entC++[.int .i64 i,v']:=by simp [entC]
   rw [e1,List.length_append];refine ⟨hown.1,?_⟩;rcases hown.2 with ⟨e2,_⟩ | ⟨g',cap',cur',e2,e3,e4,r⟩
   ·cases e2
   ·injection e2 with e2 e5 e6;injection e2 with e2;injection e2 with e2;subst e2;refine Or.inr ⟨g,cap',cur',by rw [e6];rfl,e3,?_,r⟩;rw [hother g hgd hgm];exact e4
  ·intro e he;rcases List.mem_append.1 he with he | he
   ·obtain ⟨a1,a2,a3,a4,b,a5,a6,a7⟩:=h.hent e he;exact ⟨own5 a1,a2,a3,a4,b,a5,a6,Or.inl a7⟩
   ·rw [List.mem_singleton] at he;subst he;refine ⟨own_mono (own5 hv) (Nat.zero_le _),hll,hbs,hi,?_⟩;obtain ⟨g',c',rfl,_,hg'⟩:=own_some hv (by omega);refine ⟨g',rfl,fun hm'=>?_,Or.inr ⟨hg',?_⟩⟩
    ·have:=hBF g' (f3 g' hm');omega
    ·have:=(hv.lt g' rfl).2;have:=hgrow.size;omega
  ·rw [List.length_append,lastV_snoc];exact r4 _ (by unfold wrote;exact setB_same (by rw [setB_size];exact hs2) o2)
  ·refine ⟨Or.inl f1,Or.inl f2,fun b hb=>Or.inl (f3 b hb),fun b hb=>Or.inl (f4 b hb),fun b hb=>?_⟩;injection hb with hb;subst hb;rcases hat with e | e
   ·exact Or.inl (f5 _ e)
   ·exact Or.inr ⟨e,hlt⟩
  ·intro b hb;rw [hsz];rcases hb with hb | hb
   ·exact Nat.lt_of_lt_of_le (h.hlt b hb) hgrow.size
   ·exact hb.2
 ·unfold wrote;exact setB_kp (setB_kp (hkp1.setCell (p:=⟨d,2,none⟩) (Or.inl f1) _) (Or.inl f2) _) (Or.inl f2) _
end
section
open Go.RowKit IdxPlain
def stC (s:St):List Value:=[.int .u8 s.1,.int .u32 s.2.1,.int .i64 s.2.2]
def slC (sl:List St):Array Value:=(sl.flatMap stC).toArray
def Sm (s:St):Prop:=s.1≤2∧s.2.1<4294967296∧s.2.2<1024
structure Ix (w:World)(p g:Nat)(sl:List St)(n m l gr st:Nat):Prop where
 hd:w.heap[p]?=some (Obj.cells #[.slice (some ⟨g,0,none⟩) n n,.int .i64 m,.int .i64 l,.int .i64 gr,.int .i64 st] 256 (0,0))
 wd:w.heap[g]?=some (Obj.cells (slC sl) 317 (0,0))
 hl:sl.length=n
 hn:1≤n∧n≤96
 sm:∀s∈sl,Sm s
 ml:m≤24∧l≤96∧gr≤96
theorem slC_len (sl:List St):(sl.flatMap stC).length = sl.length*3:=by
 induction sl with
 | nil=>rfl
 | cons s sl ih=>simp only [List.flatMap_cons,List.length_append,List.length_cons,ih];simp [stC];omega
theorem slC_get:∀(sl:List St) (i j:Nat),j<3→(sl.flatMap stC)[i*3+j]?=(sl[i]?).bind (fun s=>(stC s)[j]?)
 | [],i,j,hj=>by simp
 | s::sl,0,j,hj=>by
  simp only [List.flatMap_cons,Nat.zero_mul,Nat.zero_add,List.getElem?_cons_zero,Option.bind_some];rw [List.getElem?_append_left (by simpa [stC] using hj)]
 | s::sl,i+1,j,hj=>by
  simp only [List.flatMap_cons,List.getElem?_cons_succ];rw [List.getElem?_append_right (by simp [stC];omega),←slC_get sl i j hj];congr 1
  simp [stC];omega
theorem slC_set:∀(sl:List St) (i:Nat) (x:St),i<sl.length→((sl.set i x).flatMap stC)=(((sl.flatMap stC).set (i*3) (.int .u8 x.1)).set (i*3+1) (.int .u32 x.2.1)).set (i*3+2) (.int .i64 x.2.2)
 | [],i,x,h=>by simp at h
 | s::sl,0,x,h=>by simp [stC]
 | s::sl,i+1,x,h=>by
  have:=slC_set sl i x (by simpa using h);simp only [List.set_cons_succ,List.flatMap_cons,this];have e0:(i+1)*3=(stC s).length + i*3:=by simp [stC];omega
  have e1:(i+1)*3+1=(stC s).length + (i*3+1):=by simp [stC];omega
  have e2:(i+1)*3+2=(stC s).length + (i*3+2):=by simp [stC];omega
  rw [e1,e2,e0];simp only [List.set_append,Nat.not_lt_of_le (Nat.le_add_right _ _),if_false,Nat.add_sub_cancel_left]
theorem Ix.cells {w:World}{p g:Nat}{sl:List St}{n m l gr st:Nat}(h:Ix w p g sl n m l gr st){i:Nat}{s:St}(hi:sl[i]?=some s):
 w.cell? ⟨g,i*3,none⟩=some (.int .u8 s.1)∧w.cell? ⟨g,i*3+1,none⟩=some (.int .u32 s.2.1)∧w.cell? ⟨g,i*3+2,none⟩=some (.int .i64 s.2.2):=by
 have hb:=(blk h.wd).1;have get:∀j,j<3→w.cell? ⟨g,i*3+j,none⟩=(stC s)[j]? :=by
  intro j hj;rw [hb (i*3+j)];unfold slC;rw [List.getElem?_toArray,slC_get sl i j hj,hi];rfl
 exact ⟨get 0 (by omega),get 1 (by omega),get 2 (by omega)⟩
theorem Ix.kp {w w':World}{p g:Nat}{sl:List St}{n m l gr st:Nat}{F:Nat→Prop}(h:Ix w p g sl n m l gr st)(hk:Kp F w w')(h1:¬F p)(h2:¬F g):Ix w' p g sl n m l gr st:=⟨hk.blk h.hd h1,hk.blk h.wd h2,h.hl,h.hn,h.sm,h.ml⟩
theorem Ix.new {w w':World}{p g:Nat}{sl:List St}{n m l gr st:Nat}(h:Ix w p g sl n m l gr st)(hb:Below w.heap.size w w'):Ix w' p g sl n m l gr st:=⟨Bl.blk hb h.hd,Bl.blk hb h.wd,h.hl,h.hn,h.sm,h.ml⟩
theorem Ix.ne {w:World}{p g:Nat}{sl:List St}{n m l gr st:Nat}(h:Ix w p g sl n m l gr st):p≠g:=ty_ne h.hd h.wd (by decide)
theorem Ix.steps {w:World}{p g:Nat}{sl:List St}{n m l gr st:Nat}(h:Ix w p g sl n m l gr st){x:Int}{k:Nat}(hx:x=(k:Int)):Ix (w.setCell ⟨p,4,none⟩ (.int .i64 x)) p g sl n m l gr k:=by
 subst hx;have:=heap_setCell_same w p 4 _ 256 (.int .i64 k) h.hd;refine ⟨by simpa using this,?_,h.hl,h.hn,h.sm,h.ml⟩;rw [heap_setCell_ne _ _ _ (fun e=>h.ne e.symm)];exact h.wd
def placeI:Option Nat→Int | none=> -1 | some i=>(i:Int)
theorem imade_any (p g:Nat)(sl:List St)(n m l gr st:Nat)(w:World)(h:Ix w p g sl n m l gr st):Calls Tryz.prog 165 #[.pointer (some ⟨p,0,none⟩)] w fun e w'=>e = .returned (.bool true)∧w=w':=by
 obtain ⟨c0,_,_⟩:=cells5 h.hd;have hne:=run_neq_slice_nil_any (P:=Tryz.prog);clear h;go_enter Tryz.func165,Tryz.ntmps165;go_wp2;go_ret;exact ⟨rfl,rfl⟩
theorem fg_empty {sl:List St}{n id k q a b:Nat}{fr:Option Nat}(h:sl.getD q (0,0,0)=(0,a,b)):findGo sl n id (k+1) q fr=(some (fr.getD q),false):=by
 show (if (sl.getD q (0,0,0)).1=0 then _ else _)=_
 rw [h];rfl
theorem fg_same {sl:List St}{n id k q b:Nat}{fr:Option Nat}(h:sl.getD q (0,0,0)=(1,id,b)):findGo sl n id (k+1) q fr=(some q,true):=by
 show (if (sl.getD q (0,0,0)).1=0 then _ else if (sl.getD q (0,0,0)).1=1 then (if (sl.getD q (0,0,0)).2.1=id then _ else _) else _)=_
 rw [h];simp
theorem fg_full {sl:List St}{n id k q a b:Nat}{fr:Option Nat}(h:sl.getD q (0,0,0)=(1,a,b))(hne:a≠id):findGo sl n id (k+1) q fr=findGo sl n id k ((q+1) % n) fr:=by
 show (if (sl.getD q (0,0,0)).1=0 then _ else if (sl.getD q (0,0,0)).1=1 then (if (sl.getD q (0,0,0)).2.1=id then _ else _) else _)=_
 rw [h];simp [hne]
theorem fg_grave {sl:List St}{n id k q a b:Nat}{fr:Option Nat}(h:sl.getD q (0,0,0)=(2,a,b)):findGo sl n id (k+1) q fr=findGo sl n id k ((q+1) % n) (some (fr.getD q)):=by
 show (if (sl.getD q (0,0,0)).1=0 then _ else if (sl.getD q (0,0,0)).1=1 then (if (sl.getD q (0,0,0)).2.1=id then _ else _) else _)=_
 rw [h];rfl
theorem ret2_ib {a b:Int}{c d:Bool}(h:a=b)(h2:c=d):Ending.returned (.tuple #[.int .i64 a,.bool c]) = .returned (.tuple #[.int .i64 b,.bool d]):=by rw [h,h2]
theorem find_any (p g:Nat)(sl:List St)(n m l gr st id:Nat)(w:World)(h:Ix w p g sl n m l gr st)(hid9:id<4294967296):
 Calls Tryz.prog 208 #[.pointer (some ⟨p,0,none⟩),.int .u32 id] w fun e w'=>e = .returned (.tuple #[.int .i64 (placeI (findGo sl n id n (hashF id % n) none).1),.bool (findGo sl n id n (hashF id % n) none).2])∧(∃st',Ix w' p g sl n m l gr st')∧Kp (· = p) w w':=by
 have H:=hid h;have hn:=h.hn;obtain ⟨c0,f0,c1,f1,c2,f2,c3,f3,c4,f4⟩:=cells5 h.hd;have hh:=hashN_any id (by omega) w;have HH:=hid hh;have hhl:hashF id<18446744073709551616:=by unfold hashF;exact (MixPlain.hash _).isLt
 have hw1:IntKind.u64.wrap (id:Int)=(id:Int):=by rw [IntKind.wrap_u64];omega
 have hw2:IntKind.u64.wrap (n:Int)=(n:Int):=by rw [IntKind.wrap_u64];omega
 have hmod:(hashF id:Int) % (n:Int)=((hashF id % n:Nat):Int):=by simp
 obtain ⟨q,hq⟩:∃q,hashF id % n=q:=⟨_,rfl⟩;rw [hq] at hmod ⊢;have hqn:q<n:=by rw [←hq];exact Nat.mod_lt _ (by omega)
 clear h hh hq;go_enter Tryz.func208,Tryz.ntmps208;go_wp2_with fail;go_step3
 go_wp2_with fail;refine HH.out.mono ?_;rintro e w' ⟨rfl,rfl⟩;go_wp2_with fail;go_step3
 go_wp2_with fail;have HI0:=hid (H.out.steps (x:=0) (k:=0) rfl);have HK0:=hid (((Kp.refl (· = p) w).setCell (p:=⟨p,4,none⟩) rfl (.int .i64 0)));obtain ⟨w1,hw1⟩:∃w1,w.setCell ⟨p,4,none⟩ (.int .i64 0)=w1:=⟨_,rfl⟩;rw [hw1] at HI0 HK0 ⊢;clear hw1 c0 c1 c2 c3 c4 f0 f1 f2 f3 f4;rw [hmod];clear hmod;go_loopg [7,8] n (fun k s7 s8 wr=> ∃(q':Nat) (fr:Option Nat),q'<n∧s7 = .int .i64 q'∧s8 = .int .i64 (placeI fr)∧k≤n∧(∀i,fr=some i→i<n)∧Ix wr p g sl n m l gr (n-k)∧Kp (· = p) w wr∧findGo sl n id n q none=findGo sl n id k q' fr)
 case atStart=>exact ⟨q,none,hqn,rfl,rfl,Nat.le_refl _,(fun i h=>by cases h),by rw [Nat.sub_self];exact HI0.out,HK0.out,rfl⟩
 case round=>
  obtain ⟨q',fr,hq',rfl,rfl,hkn,hfr,hIx,hKp,hfind⟩:=hrel;have HIx:=hid hIx;have HKp:=hid hKp;have HFI:=hid hfind;have HFR:=hid hfr;obtain ⟨c0,f0,c1,f1,c2,f2,c3,f3,c4,f4⟩:=cells5 hIx.hd;clear hIx hKp hfind hfr;cases gk with
  | zero=>
   have hst:¬((n-0:Nat):Int)<(n:Int):=by omega
   go_wp2_with fail;go_ret2;have h9:findGo sl n id n q none=(fr,false):=HFI.out;rw [h9];exact ⟨rfl,⟨_,HIx.out⟩,HKp.out⟩
  | succ k'=>
   obtain ⟨S,hS⟩:∃S,n-(k'+1)=S:=⟨_,rfl⟩;rw [hS] at HIx c4;have hSn:S+1=n-k':=by omega
   have hst:(S:Int)<(n:Int):=by omega
   have hS64:S<96:=by omega
   obtain ⟨s9,hs9⟩:∃s9,sl[q']?=some s9:=⟨_,List.getElem?_eq_getElem (by rw [H.out.hl];exact hq')⟩;have hI2:=HIx.out.steps (x:=(S:Int)+1) (k:=n-k') (by omega);obtain ⟨d0,d1,d2⟩:=hI2.cells hs9;have HI2:=hid hI2;have HS9:=hid hs9;have hqI:(q':Int)<(n:Int):=by omega
   have hgd:sl.getD q' (0,0,0)=s9:=getD_of hs9;have HGD:=hid hgd;have hsm:=H.out.sm s9 (List.mem_of_getElem? hs9);have HSM:=hid hsm;have HSS:=hid hS;clear hI2 hs9 hgd hS hSn;obtain ⟨Q,hQ⟩:∃Q,(q'+1) % n=Q:=⟨_,rfl⟩;have hwq:((q':Int)+1) % (n:Int)=(Q:Int):=by rw [←hQ];simp
   have HQ:=hid hQ;clear hQ;obtain ⟨st9,id9,v9⟩:=s9;have hcase:st9=0∨st9=1∨st9=2:=by have:=hsm.1;omega
   clear hsm;rcases hcase with rfl | rfl | rfl
   ·cases fr with
    | none=>
     go_wp2_with fail;go_ret2;have hb9:=(new1 (wr.setCell ⟨p,4,none⟩ (.int .i64 ((S:Int)+1))) (.cells #[.int .u8 0,.int .u32 id9,.int .i64 v9] 317)).2.2;have hkk:Kp (· = p) w ((wr.setCell ⟨p,4,none⟩ (.int .i64 ((S:Int)+1))).alloc (.cells #[.int .u8 0,.int .u32 id9,.int .i64 v9] 317)):=((HKp.out.setCell (p:=⟨p,4,none⟩) rfl _).trans (Kp.of_new hb9));exact ⟨ret2_ib (by rw [HFI.out,fg_empty HGD.out];rfl) (by rw [HFI.out,fg_empty HGD.out]),⟨_,HI2.out.new hb9⟩,hkk⟩
    | some i9=>
     have hi9:=HFR.out i9 rfl;have hpI:placeI (some i9)=(i9:Int):=rfl;rw [hpI];clear hpI;go_wp2_with fail;go_ret2;have hb9:=(new1 (wr.setCell ⟨p,4,none⟩ (.int .i64 ((S:Int)+1))) (.cells #[.int .u8 0,.int .u32 id9,.int .i64 v9] 317)).2.2;have hkk:Kp (· = p) w ((wr.setCell ⟨p,4,none⟩ (.int .i64 ((S:Int)+1))).alloc (.cells #[.int .u8 0,.int .u32 id9,.int .i64 v9] 317)):=((HKp.out.setCell (p:=⟨p,4,none⟩) rfl _).trans (Kp.of_new hb9));exact ⟨ret2_ib (by rw [HFI.out,fg_empty HGD.out];rfl) (by rw [HFI.out,fg_empty HGD.out]),⟨_,HI2.out.new hb9⟩,hkk⟩
   ·by_cases hid8:id9=id
    ·subst hid8;go_wp2_with fail;go_ret2;have hb9:=(new1 (wr.setCell ⟨p,4,none⟩ (.int .i64 ((S:Int)+1))) (.cells #[.int .u8 1,.int .u32 id9,.int .i64 v9] 317)).2.2;have hkk:Kp (· = p) w ((wr.setCell ⟨p,4,none⟩ (.int .i64 ((S:Int)+1))).alloc (.cells #[.int .u8 1,.int .u32 id9,.int .i64 v9] 317)):=((HKp.out.setCell (p:=⟨p,4,none⟩) rfl _).trans (Kp.of_new hb9));exact ⟨ret2_ib (by rw [HFI.out,fg_same HGD.out];rfl) (by rw [HFI.out,fg_same HGD.out]),⟨_,HI2.out.new hb9⟩,hkk⟩
    ·have hidI:((id9:Int) == (id:Int))=false:=by simp;omega
     have HNE:=hid hid8;clear hid8;go_wp2_with fail;go_roundg k'
     case measure=>omega
     case rel=>
      have hb9:=(new1 (wr.setCell ⟨p,4,none⟩ (.int .i64 ((S:Int)+1))) (.cells #[.int .u8 1,.int .u32 id9,.int .i64 v9] 317)).2.2;have hkk:Kp (· = p) w ((wr.setCell ⟨p,4,none⟩ (.int .i64 ((S:Int)+1))).alloc (.cells #[.int .u8 1,.int .u32 id9,.int .i64 v9] 317)):=((HKp.out.setCell (p:=⟨p,4,none⟩) rfl _).trans (Kp.of_new hb9));exact ⟨Q,fr,by rw [←HQ.out];exact Nat.mod_lt _ (by omega),rfl,rfl,by omega,HFR.out,HI2.out.new hb9,hkk,by rw [HFI.out,fg_full HGD.out HNE.out,HQ.out]⟩
   ·cases fr with
    | none=>
     go_wp2_with fail;go_roundg k'
     case measure=>omega
     case rel=>
      have hb9:=(new1 (wr.setCell ⟨p,4,none⟩ (.int .i64 ((S:Int)+1))) (.cells #[.int .u8 2,.int .u32 id9,.int .i64 v9] 317)).2.2;have hkk:Kp (· = p) w ((wr.setCell ⟨p,4,none⟩ (.int .i64 ((S:Int)+1))).alloc (.cells #[.int .u8 2,.int .u32 id9,.int .i64 v9] 317)):=((HKp.out.setCell (p:=⟨p,4,none⟩) rfl _).trans (Kp.of_new hb9));exact ⟨Q,some q',by rw [←HQ.out];exact Nat.mod_lt _ (by omega),rfl,rfl,by omega,(fun i h=>by injection h with h;omega),HI2.out.new hb9,hkk,by rw [HFI.out,fg_grave HGD.out,HQ.out];rfl⟩
    | some i9=>
     have hi9:=HFR.out i9 rfl;have hpI:placeI (some i9)=(i9:Int):=rfl;rw [hpI];clear hpI;go_wp2_with fail;go_roundg k'
     case measure=>omega
     case rel=>
      have hb9:=(new1 (wr.setCell ⟨p,4,none⟩ (.int .i64 ((S:Int)+1))) (.cells #[.int .u8 2,.int .u32 id9,.int .i64 v9] 317)).2.2;have hkk:Kp (· = p) w ((wr.setCell ⟨p,4,none⟩ (.int .i64 ((S:Int)+1))).alloc (.cells #[.int .u8 2,.int .u32 id9,.int .i64 v9] 317)):=((HKp.out.setCell (p:=⟨p,4,none⟩) rfl _).trans (Kp.of_new hb9));exact ⟨Q,some i9,by rw [←HQ.out];exact Nat.mod_lt _ (by omega),rfl,rfl,by omega,(fun i h=>by injection h with h;subst h;exact hi9),HI2.out.new hb9,hkk,by rw [HFI.out,fg_grave HGD.out,HQ.out];rfl⟩
theorem Ix.put {w:World}{p g:Nat}{sl:List St}{n m l gr st:Nat}(h:Ix w p g sl n m l gr st){i:Nat}(hi:i<n)(x:St)(hx:Sm x):Ix (((w.setCell ⟨g,i*3,none⟩ (.int .u8 x.1)).setCell ⟨g,i*3+1,none⟩ (.int .u32 x.2.1)).setCell ⟨g,i*3+2,none⟩ (.int .i64 x.2.2)) p g (sl.set i x) n m l gr st:=by
 have h1:=heap_setCell_same w g (i*3) _ 317 (.int .u8 x.1) h.wd;have h2:=heap_setCell_same _ g (i*3+1) _ 317 (.int .u32 x.2.1) h1;have h3:=heap_setCell_same _ g (i*3+2) _ 317 (.int .i64 x.2.2) h2;refine ⟨?_,?_,by rw [List.length_set];exact h.hl,h.hn,fun s hs=>?_,h.ml⟩
 ·rw [heap_setCell_ne _ _ _ h.ne,heap_setCell_ne _ _ _ h.ne,heap_setCell_ne _ _ _ h.ne];exact h.hd
 ·rw [h3];unfold slC;rw [slC_set sl i x (by rw [h.hl];exact hi)];simp
 ·rcases List.mem_or_eq_of_mem_set hs with hs | hs
  ·exact h.sm s hs
  ·rw [hs];exact hx
theorem Ix.val {w:World}{p g:Nat}{sl:List St}{n m l gr st:Nat}(h:Ix w p g sl n m l gr st){i a b c:Nat}(hi:sl[i]?=some (a,b,c))(v:Nat)(hv:v<1024):Ix (w.setCell ⟨g,i*3+2,none⟩ (.int .i64 v)) p g (sl.set i (a,b,v)) n m l gr st:=by
 have hil:i<sl.length:=(List.getElem?_eq_some_iff.1 hi).1;have h3:=heap_setCell_same w g (i*3+2) _ 317 (.int .i64 v) h.wd;refine ⟨?_,?_,by rw [List.length_set];exact h.hl,h.hn,fun s hs=>?_,h.ml⟩
 ·rw [heap_setCell_ne _ _ _ h.ne];exact h.hd
 ·rw [h3];unfold slC;rw [slC_set sl i (a,b,v) hil];have e0:=slC_get sl i 0 (by omega);have e1:=slC_get sl i 1 (by omega);rw [hi] at e0 e1;have s0:(sl.flatMap stC).set (i*3) (.int .u8 a)=sl.flatMap stC:=by
   apply List.ext_getElem?;intro j;rw [List.getElem?_set];split
   ·rename_i hj;subst hj;split
    ·exact e0.symm
    ·rename_i hh;exact absurd (by rw [slC_len];omega) hh
   ·rfl
  have s1:(sl.flatMap stC).set (i*3+1) (.int .u32 b)=sl.flatMap stC:=by
   apply List.ext_getElem?;intro j;rw [List.getElem?_set];split
   ·rename_i hj;subst hj;split
    ·exact e1.symm
    ·rename_i hh;exact absurd (by rw [slC_len];omega) hh
   ·rfl
  rw [s0,s1];simp
 ·rcases List.mem_or_eq_of_mem_set hs with hs | hs
  ·exact h.sm s hs
  ·rw [hs];exact ⟨(h.sm _ (List.mem_of_getElem? hi)).1,(h.sm _ (List.mem_of_getElem? hi)).2.1,hv⟩
theorem Ix.len' {w:World}{p g:Nat}{sl:List St}{n m l gr st:Nat}(h:Ix w p g sl n m l gr st){x:Int}{k:Nat}(hx:x=(k:Int))(hk:k≤96):Ix (w.setCell ⟨p,2,none⟩ (.int .i64 x)) p g sl n m k gr st:=by
 subst hx;have:=heap_setCell_same w p 2 _ 256 (.int .i64 k) h.hd;refine ⟨by simpa using this,?_,h.hl,h.hn,h.sm,⟨h.ml.1,hk,h.ml.2.2⟩⟩;rw [heap_setCell_ne _ _ _ (fun e=>h.ne e.symm)];exact h.wd
theorem Ix.gr' {w:World}{p g:Nat}{sl:List St}{n m l gr st:Nat}(h:Ix w p g sl n m l gr st){x:Int}{k:Nat}(hx:x=(k:Int))(hk:k≤96):Ix (w.setCell ⟨p,3,none⟩ (.int .i64 x)) p g sl n m l k st:=by
 subst hx;have:=heap_setCell_same w p 3 _ 256 (.int .i64 k) h.hd;refine ⟨by simpa using this,?_,h.hl,h.hn,h.sm,⟨h.ml.1,h.ml.2.1,hk⟩⟩;rw [heap_setCell_ne _ _ _ (fun e=>h.ne e.symm)];exact h.wd
structure IdP (w:World)(p g:Nat)(F:Nat→Prop)(M:Nat→Option Nat)(m:Nat)(sl:List St)(n l gr st:Nat):Prop where
 ix:Ix w p g sl n m l gr st
 ok:Ok hashF sl n M
 cl:l=cnt 1 sl
 cg:gr=cnt 2 sl
 few:4*(l+gr)≤3*n
 lm:l≤m
 mn:2*m≤n
 fp:F p
 fg:F g
 lt:∀b,F b→b<w.heap.size
def Id (w:World)(p:Nat)(F:Nat→Prop)(M:Nat→Option Nat)(m l:Nat):Prop:= ∃g sl n gr st,IdP w p g F M m sl n l gr st
theorem Id.stay {w w':World}{p m l:Nat}{F:Nat→Prop}{M:Nat→Option Nat}(h:Id w p F M m l){G:Nat→Prop}(hk:Kp G w w')(hG:∀b,F b→ ¬G b):Id w' p F M m l:=by
 obtain ⟨g,sl,n,gr,st,h⟩:=h;exact ⟨g,sl,n,gr,st,⟨h.ix.kp hk (hG _ h.fp) (hG _ h.fg),h.ok,h.cl,h.cg,h.few,h.lm,h.mn,h.fp,h.fg,fun b hb=>Nat.lt_of_lt_of_le (h.lt b hb) hk.size⟩⟩
theorem Id.new {w w':World}{p m l:Nat}{F:Nat→Prop}{M:Nat→Option Nat}(h:Id w p F M m l)(hb:Below w.heap.size w w'):Id w' p F M m l:=h.stay (G:=nob) (Kp.of_new hb) (fun _ _ h=>h)
theorem Id.flt {w:World}{p m l:Nat}{F:Nat→Prop}{M:Nat→Option Nat}(h:Id w p F M m l):∀b,F b→b<w.heap.size:=by obtain ⟨g,sl,n,gr,st,h⟩:=h;exact h.lt
theorem IdP.empty {w:World}{p g:Nat}{F:Nat→Prop}{M:Nat→Option Nat}{m:Nat}{sl:List St}{n l gr st:Nat}(h:IdP w p g F M m sl n l gr st):∃(q:Nat) (s:St),sl[q]?=some s∧s.1=0:=
 empty_of h.ok (by rw [←h.cl,←h.cg];have:=h.few;have:=h.ix.hn;omega)
theorem ilen_any (p:Nat)(F:Nat→Prop)(M:Nat→Option Nat)(m l:Nat)(w:World)(h:Id w p F M m l):Calls Tryz.prog 118 #[.pointer (some ⟨p,0,none⟩)] w fun e w'=>e = .returned (.int .i64 l)∧w=w':=by
 obtain ⟨g,sl,n,gr,st,h⟩:=h;have H:=hid h.ix;obtain ⟨c0,f0,c1,f1,c2,f2,_⟩:=cells5 h.ix.hd;clear h;go_enter Tryz.func118,Tryz.ntmps118;go_wp2_with fail;refine (imade_any p g sl n m l gr st _ H.out).mono ?_;rintro e w' ⟨rfl,rfl⟩;go_wp2_with fail;go_ret;exact ⟨rfl,rfl⟩
theorem find_yes {w:World}{p g:Nat}{F:Nat→Prop}{M:Nat→Option Nat}{m:Nat}{sl:List St}{n l gr st:Nat}(h:IdP w p g F M m sl n l gr st){id v:Nat}(hid9:id<4294967296)(hM:M id=some v):
 ∃i,sl[i]?=some (1,id,v)∧i<n∧Calls Tryz.prog 208 #[.pointer (some ⟨p,0,none⟩),.int .u32 id] w fun e w'=>e = .returned (.tuple #[.int .i64 i,.bool true])∧(∃st',Ix w' p g sl n m l gr st')∧Kp (· = p) w w':=by
 obtain ⟨i,hf,hi⟩:=find_there h.ok hM;have hc:=find_any p g sl n m l gr st id w h.ix hid9;rw [hf] at hc;exact ⟨i,hi,by rw [←h.ix.hl];exact (List.getElem?_eq_some_iff.1 hi).1,hc⟩
theorem find_no {w:World}{p g:Nat}{F:Nat→Prop}{M:Nat→Option Nat}{m:Nat}{sl:List St}{n l gr st:Nat}(h:IdP w p g F M m sl n l gr st){id:Nat}(hid9:id<4294967296)(hM:M id=none):
 ∃i,Fit hashF sl n id i∧i<n∧Calls Tryz.prog 208 #[.pointer (some ⟨p,0,none⟩),.int .u32 id] w fun e w'=>e = .returned (.tuple #[.int .i64 i,.bool false])∧(∃st',Ix w' p g sl n m l gr st')∧Kp (· = p) w w':=by
 obtain ⟨i,hf,hi⟩:=find_not h.ok hM h.empty;have hc:=find_any p g sl n m l gr st id w h.ix hid9;rw [hf] at hc;refine ⟨i,hi,?_,hc⟩;obtain ⟨s,j,hs,_⟩:=hi;rw [←h.ix.hl];exact (List.getElem?_eq_some_iff.1 hs).1
theorem IdP.back {w:World}{p g:Nat}{F:Nat→Prop}{M:Nat→Option Nat}{m:Nat}{sl:List St}{n l gr st:Nat}(h:IdP w p g F M m sl n l gr st){w':World}{sl':List St}{M':Nat→Option Nat}{l' gr' st':Nat}(hi:Ix w' p g sl' n m l' gr' st')(hk:Kp F w w')(ho:Ok hashF sl' n M')(hl:l'=cnt 1 sl')(hg:gr'=cnt 2 sl')(hf:4*(l'+gr')≤3*n)(hlm:l'≤m):Id w' p F M' m l':=
 ⟨g,sl',n,gr',st',⟨hi,ho,hl,hg,hf,hlm,h.mn,h.fp,h.fg,fun b hb=>Nat.lt_of_lt_of_le (h.lt b hb) hk.size⟩⟩
theorem iget_any (p:Nat)(F:Nat→Prop)(M:Nat→Option Nat)(m l id:Nat)(w:World)(h:Id w p F M m l)(hid9:id<4294967296):Calls Tryz.prog 191 #[.pointer (some ⟨p,0,none⟩),.int .u32 id] w fun e w'=>e = .returned (.tuple #[.int .i64 (((M id).getD 0:Nat):Int),.bool (M id).isSome])∧Id w' p F M m l∧Kp F w w':=by
 obtain ⟨g,sl,n,gr,st,h⟩:=h;have H:=hid h;have HX:=hid h.ix;have done:∀w' st',Ix w' p g sl n m l gr st'→Kp (· = p) w w'→Id w' p F M m l∧Kp F w w':=fun w' st' hi hk=>by
  have hk2:Kp F w w':=hk.mono (fun b hb=>by rw [hb];exact H.out.fp);exact ⟨H.out.back hi hk2 H.out.ok H.out.cl H.out.cg H.out.few H.out.lm,hk2⟩
 have HD:=hid done;cases hM:M id with
 | some v=>
  obtain ⟨i,hi,hil,hc⟩:=find_yes h hid9 hM;have hilI:(i:Int)<(n:Int):=by omega
  have HI:=hid hi;have HF:=hid hc;have hn:=h.ix.hn.2;clear h hi hc done hM;go_enter Tryz.func191,Tryz.ntmps191;go_wp2_with fail;refine (imade_any p g sl n m l gr st _ HX.out).mono ?_;rintro e w' ⟨rfl,rfl⟩;go_wp2_with fail;refine HF.out.mono ?_;rintro e w2 ⟨rfl,⟨st2,hi2⟩,hk2⟩;obtain ⟨_,_,d2⟩:=hi2.cells HI.out;obtain ⟨c0,_⟩:=cells5 hi2.hd;have HI2:=hid hi2;have HK2:=hid hk2;clear hi2 hk2;go_wp2_with fail;go_ret2;exact ⟨rfl,HD.out _ _ HI2.out HK2.out⟩
 | none=>
  obtain ⟨i,hi,hil,hc⟩:=find_no h hid9 hM;have HF:=hid hc;clear h hi hc done hM;go_enter Tryz.func191,Tryz.ntmps191;go_wp2_with fail;refine (imade_any p g sl n m l gr st _ HX.out).mono ?_;rintro e w' ⟨rfl,rfl⟩;go_wp2_with fail;refine HF.out.mono ?_;rintro e w2 ⟨rfl,⟨st2,hi2⟩,hk2⟩;have HI2:=hid hi2;have HK2:=hid hk2;clear hi2 hk2;go_wp2_with fail;go_ret2;exact ⟨rfl,HD.out _ _ HI2.out HK2.out⟩
theorem iset_any (p:Nat)(F:Nat→Prop)(M:Nat→Option Nat)(m l id v v':Nat)(w:World)(h:Id w p F M m l)(hid9:id<4294967296)(hM:M id=some v)(hv:v'<1024):Calls Tryz.prog 195 #[.pointer (some ⟨p,0,none⟩),.int .u32 id,.int .i64 v'] w fun e w'=>e = .returned (.bool true)∧Id w' p F (put M id v') m l∧Kp F w w':=by
 obtain ⟨g,sl,n,gr,st,h⟩:=h;have H:=hid h;have HX:=hid h.ix;obtain ⟨i,hi,hil,hc⟩:=find_yes h hid9 hM;have hilI:(i:Int)<(n:Int):=by omega
 have HI:=hid hi;have HF:=hid hc;have hn:=h.ix.hn.2;clear h hi hc hM;go_enter Tryz.func195,Tryz.ntmps195;go_wp2_with fail;refine (imade_any p g sl n m l gr st _ HX.out).mono ?_;rintro e w' ⟨rfl,rfl⟩;go_wp2_with fail;refine HF.out.mono ?_;rintro e w2 ⟨rfl,⟨st2,hi2⟩,hk2⟩;obtain ⟨_,_,d2⟩:=hi2.cells HI.out;obtain ⟨c0,_⟩:=cells5 hi2.hd;have fz:w2.frozen? ⟨g,i*3+2,none⟩=false:=(blk hi2.wd).2.1 _;have HI2:=hid hi2;have HK2:=hid hk2;clear hi2 hk2;go_wp2_with fail;go_ret;have hk:Kp F w (w2.setCell ⟨g,i*3+2,none⟩ (.int .i64 v')):=(HK2.out.mono (fun b hb=>by rw [hb];exact H.out.fp)).setCell (p:=⟨g,_,none⟩) H.out.fg _;have hs:=HI2.out.val HI.out v' hv;have c1:=cnt_set 1 sl i _ (1,id,v') HI.out;have c2:=cnt_set 2 sl i _ (1,id,v') HI.out;exact ⟨rfl,H.out.back hs hk (set_ok H.out.ok HI.out) (by have:=H.out.cl;simp at c1;omega) (by have:=H.out.cg;simp at c2;omega) H.out.few H.out.lm,hk⟩
theorem idrop_any (p:Nat)(F:Nat→Prop)(M:Nat→Option Nat)(m l id v:Nat)(w:World)(h:Id w p F M m l)(hid9:id<4294967296)(hM:M id=some v):Calls Tryz.prog 193 #[.pointer (some ⟨p,0,none⟩),.int .u32 id] w fun e w'=>e = .returned (.bool true)∧Id w' p F (del M id) m (l-1)∧0<l∧Kp F w w':=by
 obtain ⟨g,sl,n,gr,st,h⟩:=h;have H:=hid h;have HX:=hid h.ix;obtain ⟨i,hi,hil,hc⟩:=find_yes h hid9 hM;have hilI:(i:Int)<(n:Int):=by omega
 have hc1:=cnt_set 1 sl i _ (2,0,0) hi;have hc2:=cnt_set 2 sl i _ (2,0,0) hi;simp at hc1 hc2;have hlp:0<l:=by rw [h.cl];omega
 have HCC:=hid (And.intro hc1 (And.intro hc2 hlp));have HI:=hid hi;have HF:=hid hc;have hn:=h.ix.hn.2;have hml:=h.ix.ml;clear h hi hc hM hc1 hc2;go_enter Tryz.func193,Tryz.ntmps193;go_wp2_with fail;refine (imade_any p g sl n m l gr st _ HX.out).mono ?_;rintro e w' ⟨rfl,rfl⟩;go_wp2_with fail;refine HF.out.mono ?_;rintro e w2 ⟨rfl,⟨st2,hi2⟩,hk2⟩;obtain ⟨d0,d1,d2⟩:=hi2.cells HI.out;obtain ⟨c0,f0,c1,f1,c2,f2,c3,f3,c4,f4⟩:=cells5 hi2.hd;have fz0:w2.frozen? ⟨g,i*3,none⟩=false:=(blk hi2.wd).2.1 _;have fz1:w2.frozen? ⟨g,i*3+1,none⟩=false:=(blk hi2.wd).2.1 _;have fz2:w2.frozen? ⟨g,i*3+2,none⟩=false:=(blk hi2.wd).2.1 _;have hpg:=hi2.ne;have hgp:g≠p:=fun e=>hpg e.symm
 have HI2:=hid hi2;have HK2:=hid hk2;clear hi2 hk2;go_wp2_with fail;go_ret;obtain ⟨hc1,hc2,hlp⟩:=HCC.out;have hfew:=H.out.few;have hs:=((HI2.out.put hil (2,0,0) ⟨by decide,by decide,by decide⟩).len' (x:=(l:Int)-1) (k:=l-1) (by omega) (by omega)).gr' (x:=(gr:Int)+1) (k:=gr+1) (by omega) (by have:=H.out.ix.hn;omega);have hk:=((((HK2.out.mono (G:=F) (fun b hb=>by rw [hb];exact H.out.fp)).setCell (p:=⟨g,i*3,none⟩) H.out.fg (.int .u8 2)).setCell (p:=⟨g,i*3+1,none⟩) H.out.fg (.int .u32 0)).setCell (p:=⟨g,i*3+2,none⟩) H.out.fg (.int .i64 0)).setCell (p:=⟨p,2,none⟩) H.out.fp (.int .i64 ((l:Int)-1)) |>.setCell (p:=⟨p,3,none⟩) H.out.fp (.int .i64 ((gr:Int)+1));exact ⟨rfl,H.out.back hs hk (drop_ok H.out.ok HI.out) (by have:=H.out.cl;omega) (by have:=H.out.cg;omega) (by have:=H.out.cl;omega) (by have:=H.out.lm;omega),hlp,hk⟩
end
end Go.Proofs.YtdjiopacieadpaaGreatDoor
