/- TopNear: part Paa: Mem Base OctW OctN OctP OctR. -/
import Derived.Test.YtdjiopacieadpaaGreatDoorProg
import Derived.WalkKit
import Derived.WalkLawsBesides
import Derived.WalkSpells
import Derived.RegionTactic
import Derived.Maps.AppendAt
import Derived.BigQuiet
import Derived.Deep.QuietTactic
import Derived.Laws.Rows
import Derived.Lib.SliceRun
import Derived.Lib.LazyBuf
import Derived.Deep.RegionLawGrows
set_option linter.unusedVariables false
set_option linter.unusedSimpArgs false
set_option maxRecDepth 8000
set_option maxHeartbeats 8000000
namespace Go.Proofs.YtdjiopacieadpaaGreatDoor
section
open Go.RowKit
def Sl (w:World)(v:Value)(xs:List Value):Prop:=
 ∃a cap,v = .slice a xs.length cap∧xs.length≤cap∧cap≤maxLen∧((xs=[]∧cap=0)∨ ∃b off,a=some ⟨b,off,none⟩∧b<w.heap.size∧ ∀j u,xs[j]?=some u→w.cell? ⟨b,off+j,none⟩=some u)
theorem Sl_nil (w:World):Sl w (.slice none 0 0) []:=⟨none,0,rfl,Nat.le_refl _,by unfold maxLen;omega,Or.inl ⟨rfl,rfl⟩⟩
theorem Sl_zero (w:World)(b off cap:Nat)(hb:b<w.heap.size)(hc:cap≤maxLen):Sl w (.slice (some ⟨b,off,none⟩) 0 cap) []:=
 ⟨_,cap,rfl,Nat.zero_le _,hc,Or.inr ⟨b,off,rfl,hb,fun j u h=>by simp at h⟩⟩
theorem Sl_of_own {w:World}{base:Nat}{e:TypeId}{v:Value}{n:Nat}{xs:List Value}(h:w.ownsRow base e 1 v n xs):Sl w v xs:=by
 have hl:xs.length=n:=by have:=h.1;omega
 rcases h.2 with ⟨rfl,h0⟩ | ⟨g,cap,cur,rfl,hb,hg,hnc,hcm,hcs,htake⟩
 ·have:xs=[]:=List.eq_nil_of_length_eq_zero (by omega);subst this;exact Sl_nil w
 ·refine ⟨some ⟨g,0,none⟩,cap,by rw [hl],by omega,hcm,Or.inr ⟨g,0,rfl,(Array.getElem?_eq_some_iff.1 hg).1,?_⟩⟩;intro j u hj;have:=h.cells (g:=g) rfl j u hj;have hadd:(⟨g,0,none⟩:Addr).add j=⟨g,0+j,none⟩:=by unfold Addr.add;split<;>simp_all
  rw [hadd] at this;exact this
theorem Sl_below {w w':World}{B:Nat}{v:Value}{xs:List Value}(h:Sl w v xs)(hb:Below B w w')(hB:w.heap.size≤B):Sl w' v xs:=by
 obtain ⟨a,cap,hv,hc,hm,h⟩:=h;refine ⟨a,cap,hv,hc,hm,?_⟩;rcases h with h | ⟨b,off,ha,hlt,hcell⟩
 ·exact Or.inl h
 ·refine Or.inr ⟨b,off,ha,by have:=hb.size;omega,fun j u hj=>?_⟩;rw [hb.cell (p:=⟨b,off+j,none⟩) (by show b<B;omega)];exact hcell j u hj
theorem own_below {w w':World}{B base:Nat}{e:TypeId}{size:Nat}{v:Value}{n:Nat}{xs:List Value}(h:w.ownsRow base e size v n xs)(hb:Below B w w')(hB:w.heap.size≤B):w'.ownsRow base e size v n xs:=by
 refine ⟨h.1,?_⟩;rcases h.2 with h2 | ⟨g,cap,cur,hv,hbg,hg,r⟩
 ·exact Or.inl h2
 ·have hlt:=(Array.getElem?_eq_some_iff.1 hg).1;exact Or.inr ⟨g,cap,cur,hv,hbg,by rw [hb.block g (by omega)];exact hg,r⟩
theorem own_mono {w:World}{base base':Nat}{e:TypeId}{size:Nat}{v:Value}{n:Nat}{xs:List Value}(h:w.ownsRow base e size v n xs)(hb:base'≤base):w.ownsRow base' e size v n xs:=by
 refine ⟨h.1,?_⟩;rcases h.2 with h2 | ⟨g,cap,cur,hv,hbg,r⟩
 ·exact Or.inl h2
 ·exact Or.inr ⟨g,cap,cur,hv,by omega,r⟩
theorem own_form {w:World}{base:Nat}{e:TypeId}{size:Nat}{v:Value}{n:Nat}{xs:List Value}(h:w.ownsRow base e size v n xs):∃a cap,v = .slice a n cap∧n≤cap∧cap≤maxLen:=by
 rcases h.2 with ⟨h2,h3⟩ | ⟨g,cap,cur,hv,hbg,hg,hnc,hcm,_⟩
 ·exact ⟨none,0,by rw [h2,h3],by omega,by unfold maxLen;omega⟩
 ·exact ⟨_,cap,hv,hnc,hcm⟩
theorem Sl_len {w:World}{v:Value}{xs:List Value}(h:Sl w v xs):∃a cap,v = .slice a xs.length cap∧xs.length≤cap∧cap≤maxLen:=by
 obtain ⟨a,cap,hv,hc,hm,_⟩:=h;exact ⟨a,cap,hv,hc,hm⟩
theorem Sl_cut {w:World}{b off n cap lo hi:Nat}{xs:List Value}(h:Sl w (.slice (some ⟨b,off,none⟩) n cap) xs)(h1:lo≤hi)(h2:hi≤n):
 Sl w (.slice (some ⟨b,off+lo,none⟩) (hi-lo) (cap-lo)) ((xs.take hi).drop lo):=by
 obtain ⟨a,c,hv,hc,hm,h⟩:=h;cases hv
 have hlen:((xs.take hi).drop lo).length = hi-lo:=by simp;omega
 rcases h with ⟨rfl,rfl⟩ | ⟨b',off',ha,hlt,hcell⟩
 ·exact ⟨_,_,by rw [hlen],by omega,by omega,Or.inl ⟨by simp,by omega⟩⟩
 ·cases ha
  refine ⟨_,_,by rw [hlen],by omega,by omega,Or.inr ⟨b,off+lo,rfl,hlt,?_⟩⟩;intro j u hj;have hj':xs[lo+j]?=some u:=by
   rw [List.getElem?_drop,List.getElem?_take] at hj;split at hj
   ·exact hj
   ·cases hj
  have:=hcell (lo+j) u hj';rw [←Nat.add_assoc] at this;exact this
theorem Sl_of_cells {w:World}{x:Addr}{len cap:Nat}{zs:List Value}(hl:len≤cap)(hm:cap≤maxLen)(hz:zs.length=cap)(hcell:∀i u,zs[i]?=some u→w.cell? (x.add i)=some u):Sl w (.slice (some x) len cap) (zs.take len):=by
 have hlen:(zs.take len).length = len:=by simp;omega
 by_cases h0:cap=0
 ·have:zs=[]:=List.eq_nil_of_length_eq_zero (by omega);subst this;exact ⟨_,cap,by rw [hlen],by omega,hm,Or.inl ⟨by simp,h0⟩⟩
 ·obtain ⟨u,hu⟩:∃u,zs[0]?=some u:=⟨zs[0]'(by omega),List.getElem?_eq_getElem (by omega)⟩;have hc0:=hcell 0 u hu;obtain ⟨b,off,spot⟩:=x;have hspot:spot=none:=by simpa [Addr.add] using World.cell?_spot hc0
  subst hspot;have hblk:b<w.heap.size:=World.block_lt_of_cell? w ⟨b,off,none⟩ (by simpa [Addr.add] using hc0);refine ⟨_,cap,by rw [hlen],by omega,hm,Or.inr ⟨b,off,rfl,hblk,fun j v hj=>?_⟩⟩;have hj':zs[j]?=some v:=by
   rw [List.getElem?_take] at hj;split at hj
   ·exact hj
   ·cases hj
  have hadd:(⟨b,off,none⟩:Addr).add j=⟨b,off+j,none⟩:=by unfold Addr.add;split<;>simp_all
  rw [←hadd];exact hcell j v hj'
theorem hid {p:Prop}(h:p):Hid p:=h
structure Kp (F:Nat→Prop)(w w':World):Prop where
 os:w'.os=w.os
 tape:w'.tape=w.tape
 output:w'.output=w.output
 size:w.heap.size≤w'.heap.size
 block:∀k,k<w.heap.size→ ¬F k→w'.heap[k]?=w.heap[k]?
def nob:Nat→Prop:=fun _=>False
theorem Kp.refl (F:Nat→Prop)(w:World):Kp F w w:=⟨rfl,rfl,rfl,Nat.le_refl _,fun _ _ _=>rfl⟩
theorem Kp.trans {F:Nat→Prop}{a b c:World}(h:Kp F a b)(k:Kp F b c):Kp F a c:=
 ⟨k.os.trans h.os,k.tape.trans h.tape,k.output.trans h.output,Nat.le_trans h.size k.size,fun i hi hF=>(k.block i (Nat.lt_of_lt_of_le hi h.size) hF).trans (h.block i hi hF)⟩
theorem Kp.then {F G:Nat→Prop}{a b c:World}(h:Kp F a b)(k:Kp G b c)(hG:∀i,G i→F i∨a.heap.size≤i):Kp F a c:=
 ⟨k.os.trans h.os,k.tape.trans h.tape,k.output.trans h.output,Nat.le_trans h.size k.size,fun i hi hF=>(k.block i (Nat.lt_of_lt_of_le hi h.size) (fun g=>by rcases hG i g with f | f;exact hF f;omega)).trans (h.block i hi hF)⟩
theorem Kp.mono {F G:Nat→Prop}{a b:World}(h:Kp F a b)(hG:∀i,F i→G i):Kp G a b:=⟨h.os,h.tape,h.output,h.size,fun i hi hn=>h.block i hi (fun f=>hn (hG i f))⟩
theorem Kp.of_below {F:Nat→Prop}{w w':World}{B:Nat}(h:Below B w w')(hB:w.heap.size≤B):Kp F w w':=⟨h.os,h.tape,h.output,h.size,fun i hi _=>h.block i (by omega)⟩
theorem Kp.below {F:Nat→Prop}{w w':World}{B:Nat}(h:Kp F w w')(hB:B≤w.heap.size)(hF:∀i,F i→B≤i):Below B w w':=
 ⟨h.os,h.tape,h.output,h.size,fun i hi=>h.block i (by omega) (fun f=>by have:=hF i f;omega)⟩
theorem Kp.setCell {F:Nat→Prop}{a b:World}(h:Kp F a b){p:Addr}(hp:F p.block)(v:Value):Kp F a (b.setCell p v):=
 h.trans ⟨rfl,rfl,rfl,by simp,fun k _ hn=>heap_setCell_other b p k v (fun e=>hn (e▸hp))⟩
theorem Kp.drew {F:Nat→Prop}{a b:World}(h:Kp F a b):Kp F a b.drew:=h.trans ⟨rfl,rfl,rfl,Nat.le_refl _,fun _ _ _=>rfl⟩
theorem Kp.drewN {F:Nat→Prop}{a b:World}(h:Kp F a b)(n:Nat):Kp F a (b.drewN n):=h.trans ⟨rfl,rfl,rfl,Nat.le_refl _,fun _ _ _=>rfl⟩
theorem Kp.grown {F:Nat→Prop}{a b c:World}{row:Option Nat}(h:Kp F a b)(hg:b.grownBy c row)(hr:∀k,row=some k→F k∨a.heap.size≤k):Kp F a c:=
 h.then (G:=fun i=>row=some i) ⟨hg.os,hg.tape,hg.output,hg.size,fun k hk hn=>hg.block k hk (fun e=>hn e.symm)⟩ hr
theorem Kp.cell {F:Nat→Prop}{w w':World}(h:Kp F w w'){p:Addr}(hp:p.block<w.heap.size)(hn:¬F p.block):w'.cell? p=w.cell? p:=World.cell?_of_block (w:=w) (h.block p.block hp hn)
theorem Sl_kp {F:Nat→Prop}{w w':World}{v:Value}{xs:List Value}(h:Sl w v xs)(hk:Kp F w w')(hn:∀b,v.ownBlock=some b→ ¬F b):Sl w' v xs:=by
 obtain ⟨a,cap,hv,hc,hm,h9⟩:=h;refine ⟨a,cap,hv,hc,hm,?_⟩;rcases h9 with h9 | ⟨b,off,ha,hlt,hcell⟩
 ·exact Or.inl h9
 ·refine Or.inr ⟨b,off,ha,by have:=hk.size;omega,fun j u hj=>?_⟩;rw [hk.cell (p:=⟨b,off+j,none⟩) hlt (hn b (by rw [hv,ha];rfl))];exact hcell j u hj
theorem own_kp {F:Nat→Prop}{w w':World}{base:Nat}{e:TypeId}{size:Nat}{v:Value}{n:Nat}{xs:List Value}(h:w.ownsRow base e size v n xs)(hk:Kp F w w')(hn:∀b,v.ownBlock=some b→ ¬F b):w'.ownsRow base e size v n xs:=by
 refine ⟨h.1,?_⟩;rcases h.2 with h2 | ⟨g,cap,cur,hv,hbg,hg,r⟩
 ·exact Or.inl h2
 ·exact Or.inr ⟨g,cap,cur,hv,hbg,by rw [hk.block g (Array.getElem?_eq_some_iff.1 hg).1 (hn g (by rw [hv];rfl))];exact hg,r⟩
theorem addr_add (b off j:Nat):(⟨b,off,none⟩:Addr).add j=⟨b,off+j,none⟩:=by
 unfold Addr.add;split<;>simp_all
theorem below_drewN {B:Nat}{a w:World}(h:Below B a w)(n:Nat):Below B a (w.drewN n):=h.trans ⟨rfl,rfl,rfl,Nat.le_refl _,fun _ _=>rfl⟩
theorem own_of_cells {w:World}{g n cap base:Nat}{e:TypeId}{C:Array Value}{xs:List Value}(hg:w.heap[g]?=some (.cells C e (0,0)))(hb:base≤g)(hn:n≤cap)(hm:cap≤maxLen)(hC:C.size=cap)(hx:C.toList.take n=xs):
 w.ownsRow base e 1 (.slice (some ⟨g,0,none⟩) n cap) n xs:=by
 subst hx;refine ⟨by simp [hC];omega,Or.inr ⟨g,cap,C,rfl,hb,hg,hn,hm,by omega,by simp⟩⟩
theorem own_some {w:World}{base n:Nat}{e:TypeId}{v:Value}{xs:List Value}(h:w.ownsRow base e 1 v n xs)(hn:0<n):∃g cap,v = .slice (some ⟨g,0,none⟩) n cap∧n≤cap∧base≤g:=by
 rcases h.2 with ⟨_,h0⟩ | ⟨g,cap,cur,rfl,hb,hg,hnc,_⟩
 ·omega
 ·exact ⟨g,cap,rfl,hnc,hb⟩
theorem Sl_alloc {w:World}{v:Value}{xs:List Value}(h:Sl w v xs)(o:Obj):Sl (w.alloc o) v xs:=Sl_below h ((Below.refl w.heap.size w).alloc (Nat.le_refl _) o) (Nat.le_refl _)
theorem info_parts {i:Option TypeInfo}{z:Option Value}{s b:Nat}(h:i.map (fun i=>(i.zero,i.size,i.bytes))=some (z,s,b)):∃i0,i=some i0∧i0.zero=z∧i0.size=s∧i0.bytes=b:=by
 cases i with
 | none=>cases h
 | some i0=>simp only [Option.map_some,Option.some.injEq,Prod.mk.injEq] at h;exact ⟨i0,rfl,h.1,h.2.1,h.2.2⟩
theorem own_other {w:World}{base n size:Nat}{e:TypeId}{v:Value}{xs:List Value}(h:w.ownsRow base e size v n xs){p:Addr}(hne:v.ownBlock≠some p.block)(u:Value):(w.setCell p u).ownsRow base e size v n xs:=by
 refine ⟨h.1,?_⟩;rcases h.2 with h2 | ⟨g,cap,cur,hv,hbg,hg,r⟩
 ·exact Or.inl h2
 ·refine Or.inr ⟨g,cap,cur,hv,hbg,?_,r⟩;rw [heap_setCell_other w p g u (fun e=>hne (by rw [hv,e];rfl))];exact hg
theorem Sl_news {w:World}{a:Addr}{n c:Nat}{xs:List Value}(h:Sl w (.slice (some a) n c) xs):∀j u,xs[j]?=some u→w.cell? (a.add j)=some u:=by
 intro j u hj;obtain ⟨_,_,e,_,_,h9⟩:=h;injection e with e1 _ _;rcases h9 with ⟨h9,_⟩ | ⟨b',off,h10,_,hcell⟩
 ·rw [h9] at hj;cases hj
 ·rw [←e1] at h10;injection h10 with h10;rw [h10,addr_add];exact hcell j u hj
theorem Sl_none {w:World}{n c:Nat}{xs:List Value}(h:Sl w (.slice none n c) xs):xs=[]∧n=0∧c=0:=by
 obtain ⟨_,_,e,_,_,h9⟩:=h;injection e with e1 e2 e3;rcases h9 with ⟨h9,h10⟩ | ⟨b',off,h10,_,_⟩
 ·subst h9;exact ⟨rfl,e2,by omega⟩
 ·rw [←e1] at h10;cases h10
theorem eql_nil34 (a:Option Addr)(l c:Nat)(w:World):(binOp .eql 34 (.slice a l c) (.slice none 0 0)).run Tryz.prog w = .ok (.bool a.isNone) w:=run_eql_slice_nil (P:=Tryz.prog) w 34 5 a l c Tryz.underlying34
theorem wpList_min2 {w:World}{ops:Array Oper}{rest:List Oper}{o:Oper}{a:Act}{Q:Exit→Act→World→Prop}(hgd:o.guard=none)(x y:Operand)(ho:o.op = .call {callee:= .builtin .min,args:=#[x,y],argTypes:=#[3,3]})(X Y M:Int)(hx:a.eval x = .int .i64 X)(hy:a.eval y = .int .i64 Y)(hM:(if Y<X then Y else X)=M)(h:wpList Tryz.prog ops Q rest (a.put o.dst (.int .i64 M)) w):wpList Tryz.prog ops Q (o::rest) a w:=by
 refine wpList_plain hgd fun K hK=>?_
 have hrun:=run_min_int2 (P:=Tryz.prog) w #[3,3] o.type .i64 .i64 X Y;rw [hM] at hrun;unfold Oper.wp;simp [execOp,ho,resolve,invoke,builtin,hx,hy,hrun,Result.andThen];exact hK _ _ h
theorem results_row2 {P:Program}{fn:Func}{p u:Tmp}{ty:TypeId}(h:fn.results=#[.cell p ty,.tmp u])(tmps:Array Value)(w:World)(g:Nat)(t:TypeId)(cs:Array Value)(fr:Nat×Nat)(d:TypeDesc)(hp:tmps.getD p undef = .pointer (some ⟨g,0,none⟩))(hg:w.heap[g]?=some (.cells cs t fr))(hu:P.underlying ty=some d)(hd:(match d with | .struct _ | .array _ _=>true | _=>false)=true)(hi:(P.info? ty).map (·.size)=some cs.size):
 (results fn tmps).run P w = .ok (.tuple #[.agg cs,tmps.getD u undef]) w:=by
 have hp':tmps[p]?.getD undef = .pointer (some ⟨g,0,none⟩):=by simpa using hp
 simp [results,h,hp',asAddr,run_loadVar_row w g t ty cs fr d hg hu hd hi]
theorem results_row3 {P:Program}{fn:Func}{p u v:Tmp}{ty:TypeId}(h:fn.results=#[.cell p ty,.tmp u,.tmp v])(tmps:Array Value)(w:World)(g:Nat)(t:TypeId)(cs:Array Value)(fr:Nat×Nat)(d:TypeDesc)(hp:tmps.getD p undef = .pointer (some ⟨g,0,none⟩))(hg:w.heap[g]?=some (.cells cs t fr))(hu:P.underlying ty=some d)(hd:(match d with | .struct _ | .array _ _=>true | _=>false)=true)(hi:(P.info? ty).map (·.size)=some cs.size):
 (results fn tmps).run P w = .ok (.tuple #[.agg cs,tmps.getD u undef,tmps.getD v undef]) w:=by
 have hp':tmps[p]?.getD undef = .pointer (some ⟨g,0,none⟩):=by simpa using hp
 simp [results,h,hp',asAddr,run_loadVar_row w g t ty cs fr d hg hu hd hi]
def Lb (l:List Nat):List Value:=l.map fun (b:Nat)=>Value.int .u8 b
theorem Lb_len (l:List Nat):(Lb l).length = l.length:=by simp [Lb]
theorem Lb_app (a b:List Nat):Lb (a++b)=Lb a++Lb b:=by simp [Lb]
theorem Lb_take (a:List Nat)(n:Nat):(Lb a).take n=Lb (a.take n):=by simp [Lb,List.map_take]
theorem Lb_drop (a:List Nat)(n:Nat):(Lb a).drop n=Lb (a.drop n):=by simp [Lb,List.map_drop]
theorem Lb_set (a:List Nat)(k x:Nat):(Lb a).set k (.int .u8 x)=Lb (a.set k x):=by simp [Lb,List.map_set]
theorem Lb_get {l:List Nat}{k:Nat}(h:k<l.length):(Lb l)[k]?=some (.int .u8 ((l[k]:Nat):Int)):=by simp [Lb,h]
theorem Lb_one (l:List Nat):∀u∈Lb l,u.oneCell'=true:=by
 intro u hu;simp only [Lb,List.mem_map] at hu;obtain ⟨b,_,rfl⟩:=hu;rfl
def Bs (l:List Nat):Prop:= ∀b∈l,b<256
theorem Sl_partsB {w:World}{v:Value}{l:List Nat}(h:Sl w v (Lb l)):∃a c,v = .slice a l.length c∧l.length≤c∧c≤maxLen:=by
 obtain ⟨a,c,rfl,hc,hcm,_⟩:=h;rw [Lb_len] at hc ⊢;exact ⟨a,c,rfl,hc,hcm⟩
theorem Sl_cellB {w:World}{a:Option Addr}{n c k:Nat}{l:List Nat}(h:Sl w (.slice a n c) (Lb l))(hk:k<l.length):
 ∃b off,a=some ⟨b,off,none⟩∧b<w.heap.size∧w.cell? ⟨b,off+k,none⟩=some (.int .u8 ((l[k]:Nat):Int)):=by
 obtain ⟨a',c',e,_,_,h9⟩:=h;injection e with e1 e2 e3;subst e1;rcases h9 with ⟨h9,_⟩ | ⟨b,off,rfl,hb,hcell⟩
 ·have:=Lb_len l;rw [h9] at this;simp at this;omega
 ·exact ⟨b,off,rfl,hb,hcell k _ (Lb_get hk)⟩
theorem info5:(Tryz.prog.info? 5).map (fun i=>(i.zero,i.size,i.bytes))=some (some (.int .u8 0),1,1):=by kernel_rfl
theorem store_u8 (a:Addr)(x:Int)(w:World):(store a (.int .u8 x)).run Tryz.prog w=stored Tryz.prog w a (.int .u8 x) .plain :=run_store Tryz.prog w a _ _ rfl
theorem blk {w:World}{b:Nat}{c:Array Value}{t:TypeId}(h:w.heap[b]?=some (.cells c t (0,0))):(∀i,w.cell? ⟨b,i,none⟩=c[i]?)∧(∀i,w.frozen? ⟨b,i,none⟩=false)∧b<w.heap.size:=
 ⟨fun i=>cell_of_row w b i c t _ h,fun i=>frozen_of_row w b i c t h,(Array.getElem?_eq_some_iff.1 h).1⟩
def Wr (w:World)(p:Nat)(l:List Nat):Prop:= ∃v,w.heap[p]?=some (.cells #[v] 127 (0,0))∧w.ownsRow (p+1) 5 1 v l.length (Lb l)
theorem Wr.lt {w:World}{p:Nat}{l:List Nat}(h:Wr w p l):p<w.heap.size:=by
 obtain ⟨v,h1,_⟩:=h;exact (Array.getElem?_eq_some_iff.1 h1).1
theorem Wr.new (w:World):Wr (w.alloc (.cells #[.slice none 0 0] 127)) w.heap.size []:=⟨_,heap_alloc_new _ _,World.ownsRow_nil _ _ _ _⟩
theorem Wr.below {w w':World}{p:Nat}{l:List Nat}{B:Nat}(h:Wr w p l)(hb:Below B w w')(hB:w.heap.size≤B):Wr w' p l:=by
 have hp:=h.lt;obtain ⟨v,h1,h2⟩:=h;exact ⟨v,by rw [hb.block p (by omega)];exact h1,own_below h2 hb hB⟩
theorem Wr.cells {w:World}{p n cap:Nat}{oa:Option Addr}{l:List Nat}(h:w.ownsRow (p+1) 5 1 (.slice oa n cap) n (Lb l)):(oa=none→n=0∧n=0)∧ ∀b,oa=some b→ ∀j u,(Lb l)[j]?=some u→w.cell? (b.add j)=some u:=by
 refine ⟨fun e=>?_,fun b e j u hj=>?_⟩
 ·subst e;rcases h.2 with ⟨_,h0⟩ | ⟨g,c,cur,h9,_⟩
  ·exact ⟨h0,h0⟩
  ·cases h9
 ·subst e;rcases h.2 with ⟨h9,h0⟩ | ⟨g,c,cur,h9,_⟩
  ·cases h9
  ·injection h9 with h9;injection h9 with h9;subst h9;exact h.cells (g:=g) rfl j u hj
theorem Wr.added {w w4:World}{p n m g4 c4:Nat}{old:Value}{l b:List Nat}(h1:w.heap[p]?=some (.cells #[old] 127 (0,0)))(hgrow:w.drew.grownBy w4 none)(hown:w4.ownsRow w.drew.heap.size 5 1 (.slice (some ⟨g4,0,none⟩) (n+m) c4) (n+m) (Lb l++Lb b))(hn:l.length=n)(hm:b.length=m)(h0:0<m):
 Wr (w4.setCell ⟨p,0,none⟩ (.slice (some ⟨g4,0,none⟩) (n+m) c4)) p (l++b)∧Kp (· = p) w (w4.setCell ⟨p,0,none⟩ (.slice (some ⟨g4,0,none⟩) (n+m) c4)):=by
 have hp:=(Array.getElem?_eq_some_iff.1 h1).1;have hlt:w.heap.size≤g4:=(hown.lt g4 rfl).1;have e0:w4.heap[p]?=some (.cells #[old] 127 (0,0)):=(hgrow.block p hp (by simp)).trans h1;refine ⟨⟨_,heap_setCell_same w4 p 0 _ 127 _ e0,?_⟩,((Kp.refl (· = p) w).drew.grown hgrow (fun k hk=>by cases hk)).setCell (show (p:Nat)=p from rfl) _⟩;have h3:w4.ownsRow (p+1) 5 1 (.slice (some ⟨g4,0,none⟩) (n+m) c4) (l++b).length (Lb (l++b)):=by
  rw [List.length_append,hn,hm,Lb_app];exact own_mono hown (by show p+1≤w.heap.size;omega)
 exact own_other h3 (by intro h9;injection h9 with h9;have:g4=p:=h9;omega) _
theorem add_any (p:Nat)(l b:List Nat)(bv:Value)(w:World)(hW:Wr w p l)(hb:Sl w bv (Lb b))(h0:0<b.length)(hlen:l.length+b.length≤1000000):
 Calls Tryz.prog 147 #[.pointer (some ⟨p,0,none⟩),bv] w fun e w'=>e = .returned (.tuple #[])∧Wr w' p (l++b)∧Kp (· = p) w w':=by
 obtain ⟨ba,bc,rfl,hbc,hbcm⟩:=Sl_partsB hb;have hlt:=hW.lt;obtain ⟨v,h1,h2⟩:=hW;obtain ⟨oa,cap,rfl,hcap,hcapm⟩:=own_form h2;obtain ⟨k1,k2,_⟩:=blk h1;have hc0:=k1 0;have hf0:=k2 0;obtain ⟨bb,bo,rfl,hbb,_⟩:=Sl_cellB (k:=0) hb h0;have hcb:∀j u,(Lb b)[j]?=some u→w.cell? ((⟨bb,bo,none⟩:Addr).add j)=some u:=by
  intro j u hj;obtain ⟨_,_,e,_,_,h9⟩:=hb;injection e with e1 _ _;rcases h9 with ⟨h9,_⟩ | ⟨b',off,h10,_,hcell⟩
  ·rw [h9] at hj;cases hj
  ·rw [←e1] at h10;injection h10 with h10;injection h10 with h11 h12;subst h11 h12;rw [addr_add];exact hcell j u hj
 obtain ⟨i0,hi,hz0,hz1,hz2⟩:=info_parts info5;have HI:=hid hi;have HZ:=hid hz2;have HCB:=hid hcb;have HL:=hid (Lb_len l);have HLB:=hid (Lb_len b);obtain ⟨n,hn⟩:∃n,l.length=n:=⟨_,rfl⟩;obtain ⟨m,hm⟩:∃m,b.length=m:=⟨_,rfl⟩;have HN:=hid hn;have HM:=hid hm;rw [hn] at h1 h2 hcap hc0 hlen HL;rw [hm] at h0 hlen hbc HLB ⊢;have HWC:=hid (Wr.cells h2);have HLT:=hid hlt;have HF0:=hid hf0;clear hf0;have H1:=hid h1;have HC0:=hid (show w.cell? ⟨p,0,none⟩=some (.slice oa n cap) from hc0);clear h1 h2 hi hz2 hcb hb hc0 k1 k2 hn hm;go_enter Tryz.func147,Tryz.ntmps147;go_wp2_with fail;have hc0:=HC0.out;have hf0:=HF0.out;go_region_law (refine step_append_grows (by rfl) _ _ 34 (by rfl) 5 i0 (.int .u8 0) 1 1 Tryz.underlying34 HI.out hz0 hz1 HZ.out rfl (by decide) oa n n (Lb l) (by rfl) HWC.out.1 (by rw [HL.out];omega) HWC.out.2 ⟨bb,bo,none⟩ m bc (Lb b) (by rfl) (by rw [HLB.out];omega) HCB.out (Lb_one b) (by omega) (by unfold maxLen;omega) (by omega) ?_;intro v4 w4 hown hgrow;obtain ⟨g4,c4,rfl,hcc4,hbg4⟩:=own_some hown (by omega);have hc4:w4.cell? ⟨p,0,none⟩=some (.slice oa n cap):=(World.cell?_of_block (a:=⟨p,0,none⟩) (hgrow.block p HLT.out (by simp))).trans HC0.out;have hf4:w4.frozen? ⟨p,0,none⟩=false:=(World.frozen?_of_block (a:=⟨p,0,none⟩) (hgrow.block p HLT.out (by simp))).trans HF0.out)
 all_goals
  go_end0
  exact ⟨rfl,Wr.added H1.out hgrow hown HN.out HM.out h0⟩
def le (n:Nat):Nat→List Nat
 | 0=>[]
 | k+1=>le n k++[n / 256 ^ k % 256]
theorem le_len (n k:Nat):(le n k).length = k:=by
 induction k with
 | zero=>rfl
 | succ k ih=>show (le n k++_).length = _;rw [List.length_append,ih];rfl
theorem le_bytes (n k:Nat):Bs (le n k):=by
 induction k with
 | zero=>intro b hb;cases hb
 | succ k ih=>
  intro b hb;rcases List.mem_append.1 hb with h | h
  ·exact ih b h
  ·rw [List.mem_singleton] at h;omega
def fillL (n size k:Nat):List Nat:=le n k++List.replicate (size-k) 0
theorem fillL_zero (n size:Nat):fillL n size 0=List.replicate size 0:=by simp [fillL,le]
theorem fillL_all (n size:Nat):fillL n size size=le n size:=by simp [fillL]
theorem fillL_set {n size k:Nat}(h:k<size):(fillL n size k).set k (n / 256 ^ k % 256)=fillL n size (k+1):=by
 unfold fillL;rw [List.set_append_right _ _ (by rw [le_len];exact Nat.le_refl _),le_len,Nat.sub_self];obtain ⟨j,hj⟩:∃j,size-k=j+1:=⟨size-k-1,by omega⟩;rw [hj,List.replicate_succ,List.set_cons_zero,show size-(k+1)=j from by omega];show _=(le n k++_)++_
 rw [List.append_assoc];rfl
theorem fillL_len {n size k:Nat}(h:k≤size):(fillL n size k).length = size:=by
 unfold fillL;rw [List.length_append,le_len,List.length_replicate];omega
theorem byte_of (n k:Nat):(n:Int) / 2 ^ (8*k) % 256=((n / 256 ^ k % 256:Nat):Int):=by
 have e:(2:Int) ^ (8*k)=((256 ^ k:Nat):Int):=by
  rw [show (256:Nat)=2 ^ 8 from rfl,←Nat.pow_mul];simp
 rw [e];rfl
theorem zerosB (n:Nat):(madeCells (Value.int .u8 0).cells (n*1)).toList = Lb (List.replicate n 0):=by
 rw [show (Value.int .u8 0).cells = #[Value.int .u8 0] from rfl,Nat.mul_one,toList_madeCells_one];simp [Lb]
theorem number_any (p:Nat)(l:List Nat)(n size:Nat)(w:World)(hW:Wr w p l)(hn:n<18446744073709551616)(hs:size≤8)(hs1:1≤size)(hlen:l.length≤100000):
 Calls Tryz.prog 98 #[.pointer (some ⟨p,0,none⟩),.int .u64 n,.int .i64 size] w fun e w'=>e = .returned (.tuple #[])∧Wr w' p (l++le n size)∧Kp (· = p) w w':=by
 obtain ⟨i0,hi,hz0,hz1,hz2⟩:=info_parts info5;have HI:=hid hi;have HZ:=hid hz2;have HW:=hid hW;have HN:=hid hn;have hlt:=hW.lt;clear hi hz2 hW hn;have hst:=store_u8;have hs0:(0:Int)≤(size:Int):=by omega
 go_enter Tryz.func98,Tryz.ntmps98;go_wp2_with (at_make;refine wpList_make_full _ rfl _ _ 34 rfl w.heap.size 5 i0 (.int .u8 0) 1 Tryz.underlying34 HI.out hz0 hz1 .i64 .i64 _ _ size rfl rfl rfl rfl (by rw [HZ.out];omega) (by unfold maxLen;omega) (Nat.le_refl _) ?_;intro w2 hown hgrow);have hb2:=(Below.refl w.heap.size w).grown hgrow (Nat.le_refl _) (fun k hk=>by cases hk);rw [zerosB,←fillL_zero n size] at hown;have HO2:=hid hown;have HB2:=hid hb2;clear hown hgrow hb2;go_loopw [12] (fun i wi=> ∃k:Nat,k≤size∧i = .int .i64 k∧wi.ownsRow w.heap.size 5 1 (.slice (some ⟨w.heap.size,0,none⟩) size size) size (Lb (fillL n size k))∧Below w.heap.size w wi) (fun i _=>size-(intOf i).toNat)
 case atStart=>exact ⟨0,by omega,rfl,HO2.out,HB2.out⟩
 case round=>
  obtain ⟨k,hk,rfl,hoI,hbI⟩:=hrel;have HOI:=hid hoI;have HBI:=hid hbI;clear hoI hbI;by_cases hlt2:k<size
  ·have hlt3:(k:Int)<(size:Int):=by omega
   have hw8:IntKind.i64.wrap (8*(k:Int))=8*(k:Int):=by rw [IntKind.wrap_i64];omega
   have hfr:wr.frozen? ⟨w.heap.size,k,none⟩=false:=HOI.out.frozenAt k;have hcl:=HOI.out.cellAt k (by omega);rw [Lb_get (by rw [fillL_len (by omega)];omega)] at hcl;have hst2:=(HOI.out.stored k (.int .u8 ((n / 256 ^ k % 256:Nat):Int))).1;rw [Lb_set,fillL_set hlt2] at hst2;have HST:=hid hst2;have HBY:=hid (byte_of n k);clear hst2;go_wp2_with fail;rw [HBY.out];go_roundw;case rel=>exact ⟨k+1,by omega,by go_num,HST.out,HBI.out.setCell (Nat.le_refl _) _⟩
   case measure=>simp [intOf];omega
  ·obtain rfl:k=size:=by omega
   have hfin:=HOI.out;rw [fillL_all] at hfin;have hsl:=Sl_of_own hfin;have HSL:=hid hsl;clear hfin hsl;go_wp2_with fail;refine (add_any p l (le n k) _ _ (HW.out.below HBI.out (Nat.le_refl _)) HSL.out (by rw [le_len];omega) (by rw [le_len];omega)).mono ?_;rintro e w5 ⟨rfl,hW5,hK5⟩;have HW5:=hid hW5;have HK5:=hid ((Kp.of_below HBI.out (Nat.le_refl _)).trans hK5);clear hW5 hK5;go_wp2_with fail;go_end0
   exact ⟨rfl,HW5.out,HK5.out⟩
theorem byte_any (p:Nat)(l:List Nat)(n:Nat)(w:World)(hW:Wr w p l)(hn:n<256)(hlen:l.length≤100000):
 Calls Tryz.prog 47 #[.pointer (some ⟨p,0,none⟩),.int .u8 n] w fun e w'=>e = .returned (.tuple #[])∧Wr w' p (l++le n 1)∧Kp (· = p) w w':=by
 have HW:=hid hW;have hw1:IntKind.u64.wrap (n:Int)=(n:Int):=by rw [IntKind.wrap_u64];omega
 clear hW;go_enter Tryz.func47,Tryz.ntmps47;go_wp2_with fail;refine (number_any p l n 1 _ HW.out (by omega) (by omega) (by omega) hlen).mono ?_;rintro e w5 ⟨rfl,h1,h2⟩;have H1:=hid h1;have H2:=hid h2;clear h1 h2;go_wp2_with fail;go_end0
 exact ⟨rfl,H1.out,H2.out⟩
theorem two_any (p:Nat)(l:List Nat)(n:Nat)(w:World)(hW:Wr w p l)(hn:n<65536)(hlen:l.length≤100000):
 Calls Tryz.prog 48 #[.pointer (some ⟨p,0,none⟩),.int .u16 n] w fun e w'=>e = .returned (.tuple #[])∧Wr w' p (l++le n 2)∧Kp (· = p) w w':=by
 have HW:=hid hW;have HN:=hid hn;have hw1:IntKind.u64.wrap (n:Int)=(n:Int):=by rw [IntKind.wrap_u64];omega
 clear hW hn;go_enter Tryz.func48,Tryz.ntmps48;go_wp2_with fail;refine (number_any p l n 2 _ HW.out (by have:=HN.out;omega) (by omega) (by omega) hlen).mono ?_;rintro e w5 ⟨rfl,h1,h2⟩;have H1:=hid h1;have H2:=hid h2;clear h1 h2;go_wp2_with fail;go_end0
 exact ⟨rfl,H1.out,H2.out⟩
theorem four_any (p:Nat)(l:List Nat)(n:Nat)(w:World)(hW:Wr w p l)(hn:n<4294967296)(hlen:l.length≤100000):
 Calls Tryz.prog 46 #[.pointer (some ⟨p,0,none⟩),.int .u32 n] w fun e w'=>e = .returned (.tuple #[])∧Wr w' p (l++le n 4)∧Kp (· = p) w w':=by
 have HW:=hid hW;have HN:=hid hn;have hw1:IntKind.u64.wrap (n:Int)=(n:Int):=by rw [IntKind.wrap_u64];omega
 clear hW hn;go_enter Tryz.func46,Tryz.ntmps46;go_wp2_with fail;refine (number_any p l n 4 _ HW.out (by have:=HN.out;omega) (by omega) (by omega) hlen).mono ?_;rintro e w5 ⟨rfl,h1,h2⟩;have H1:=hid h1;have H2:=hid h2;clear h1 h2;go_wp2_with fail;go_end0
 exact ⟨rfl,H1.out,H2.out⟩
theorem eight_any (p:Nat)(l:List Nat)(n:Nat)(w:World)(hW:Wr w p l)(hn:n<18446744073709551616)(hlen:l.length≤100000):
 Calls Tryz.prog 49 #[.pointer (some ⟨p,0,none⟩),.int .u64 n] w fun e w'=>e = .returned (.tuple #[])∧Wr w' p (l++le n 8)∧Kp (· = p) w w':=by
 have HW:=hid hW;have HN:=hid hn;clear hW hn;go_enter Tryz.func49,Tryz.ntmps49;go_wp2_with fail;refine (number_any p l n 8 _ HW.out HN.out (by omega) (by omega) hlen).mono ?_;rintro e w5 ⟨rfl,h1,h2⟩;have H1:=hid h1;have H2:=hid h2;clear h1 h2;go_wp2_with fail;go_end0
 exact ⟨rfl,H1.out,H2.out⟩
theorem put_any (p:Nat)(l b:List Nat)(bv:Value)(w:World)(hW:Wr w p l)(hb:Sl w bv (Lb b))(h0:0<b.length)(hlen:l.length+b.length≤1000000):
 Calls Tryz.prog 122 #[.pointer (some ⟨p,0,none⟩),bv] w fun e w'=>e = .returned (.tuple #[])∧Wr w' p (l++b)∧Kp (· = p) w w':=by
 have HW:=hid hW;have HB:=hid hb;obtain ⟨ba,bc,rfl,hbc,hbcm⟩:=Sl_partsB hb;clear hW hb;go_enter Tryz.func122,Tryz.ntmps122;go_wp2_with fail;refine (add_any p l b _ _ HW.out HB.out h0 hlen).mono ?_;rintro e w5 ⟨rfl,h1,h2⟩;have H1:=hid h1;have H2:=hid h2;clear h1 h2;go_wp2_with fail;go_end0
 exact ⟨rfl,H1.out,H2.out⟩
theorem clone_any (v:Value)(l:List Nat)(w:World)(hv:Sl w v (Lb l))(hl:l.length≤10000000):
 Calls Tryz.prog 80 #[v] w fun e w'=> ∃v',e = .returned v'∧w'.ownsRow w.heap.size 5 1 v' l.length (Lb l)∧Below w.heap.size w w':=by
 obtain ⟨a,c,rfl,hc,hcm⟩:=Sl_partsB hv;obtain ⟨i0,hi,hz0,hz1,hz2⟩:=info_parts info5;have HI:=hid hi;have HZ:=hid hz2;have HV:=hid hv;clear hi hz2 hv;have hnil:=fun w=>eql_nil34 a l.length c w
 cases a with
 | none=>
  obtain ⟨e1,e2,e3⟩:=Sl_none HV.out;have hl0:l=[]:=List.eq_nil_of_length_eq_zero e2;subst hl0 e3;have hnil:=fun w=>eql_nil34 none 0 0 w
  go_enter Tryz.func80,Tryz.ntmps80;go_wp2_with fail;go_ret;exact ⟨_,rfl,World.ownsRow_nil _ _ _ _,Below.refl _ _⟩
 | some a=>
  have HNW:=hid (Sl_news (Sl_alloc HV.out (.cells #[] 5)));have HLL:=hid (Lb_len l);go_enter Tryz.func80,Tryz.ntmps80;go_wp2_with (at_builtin;refine wpList_append_own _ rfl _ _ 34 rfl w.heap.size 5 i0 (.int .u8 0) 1 1 Tryz.underlying34 HI.out hz0 hz1 HZ.out rfl (by decide) _ 0 [] rfl (World.ownsRow_made _ _ _ (Nat.le_refl _) (by unfold maxLen;omega) rfl) a l.length c (Lb l) rfl (by rw [HLL.out];omega) HNW.out (Lb_one l) (by unfold maxLen;omega) (by omega) (by simp) ?_;intro v4 w4 hown hgrow _);go_ret;refine ⟨_,rfl,?_,((Below.refl w.heap.size w).alloc (Nat.le_refl _) _).grown hgrow (by simp) (fun k hk=>by cases hk;exact Nat.le_refl _)⟩;rw [Nat.zero_add] at hown;simpa using hown
theorem out_any (p:Nat)(l:List Nat)(w:World)(hW:Wr w p l)(hl:l.length≤10000000):
 Calls Tryz.prog 50 #[.pointer (some ⟨p,0,none⟩)] w fun e w'=> ∃v',e = .returned v'∧w'.ownsRow w.heap.size 5 1 v' l.length (Lb l)∧Below w.heap.size w w':=by
 obtain ⟨v,h1,h2⟩:=hW;obtain ⟨oa,cap,rfl,hcap,hcapm⟩:=own_form h2;have hc0:w.cell? ⟨p,0,none⟩=some (.slice oa l.length cap):=(blk h1).1 0;have HS:=hid (Sl_of_own h2);clear h1 h2;go_enter Tryz.func50,Tryz.ntmps50;go_wp2_with fail;refine (clone_any _ l _ HS.out hl).mono ?_;rintro e w5 ⟨v5,rfl,ho,hb⟩;have HO:=hid ho;have HB:=hid hb;clear ho hb;go_wp2_with fail;go_ret;exact ⟨_,rfl,HO.out,HB.out⟩
def OwnLt (v:Value)(q:Nat):Prop:= ∀b,v.ownBlock=some b→b<q
theorem OwnLt.ne {v:Value}{q:Nat}(h:OwnLt v q):v.ownBlock≠some q:=fun e=>Nat.lt_irrefl q (h q e)
def Rs (w:World)(q:Nat)(l:List Nat)(e:Nat):Prop:= ∃v,w.heap[q]?=some (.cells #[v,.int .i64 e] 180 (0,0))∧Sl w v (Lb l)∧OwnLt v q
def Rd (w:World)(r q:Nat)(l:List Nat)(e:Nat):Prop:=w.heap[r]?=some (.cells #[.pointer (some ⟨q,0,none⟩)] 182 (0,0))∧r≠q∧Rs w q l e
theorem Rs.lt {w:World}{q:Nat}{l:List Nat}{e:Nat}(h:Rs w q l e):q<w.heap.size:=by
 obtain ⟨v,h1,_⟩:=h;exact (Array.getElem?_eq_some_iff.1 h1).1
theorem Rs.below {w w':World}{q:Nat}{l:List Nat}{e:Nat}{B:Nat}(h:Rs w q l e)(hb:Below B w w')(hB:w.heap.size≤B):Rs w' q l e:=by
 have hp:=h.lt;obtain ⟨v,h1,h2,h3⟩:=h;exact ⟨v,by rw [hb.block q (by omega)];exact h1,Sl_below h2 hb hB,h3⟩
theorem Rd.below {w w':World}{r q:Nat}{l:List Nat}{e:Nat}{B:Nat}(h:Rd w r q l e)(hb:Below B w w')(hB:w.heap.size≤B):Rd w' r q l e:=by
 obtain ⟨h1,h2,h3⟩:=h;exact ⟨by rw [hb.block r (by have:=(Array.getElem?_eq_some_iff.1 h1).1;omega)];exact h1,h2,h3.below hb hB⟩
def tkB (l:List Nat)(e n:Nat):List Nat:=if e=0∧n≤l.length then l.take n else []
def tkL (l:List Nat)(e n:Nat):List Nat:=if e=0 then (if n≤l.length then l.drop n else []) else l
def tkE (l:List Nat)(e n:Nat):Nat:=if e=0 then (if n≤l.length then 0 else 4) else e
theorem Rs.set {w:World}{q:Nat}{v v':Value}{x:Int}{e:Nat}{l:List Nat}(h1:w.heap[q]?=some (.cells #[v,.int .i64 x] 180 (0,0)))(hs:Sl w v' (Lb l))(hne:OwnLt v' q)(he:x=(e:Int)):Rs (w.setCell ⟨q,0,none⟩ v') q l e:=by
 subst he;refine ⟨v',heap_setCell_same w q 0 _ 180 v' h1,?_,hne⟩;obtain ⟨a,cap,hv,hc,hm,h⟩:=hs;refine ⟨a,cap,hv,hc,hm,?_⟩;rcases h with h | ⟨b,off,ha,hlt,hcell⟩
 ·exact Or.inl h
 ·refine Or.inr ⟨b,off,ha,by simpa using hlt,fun j u hj=>?_⟩;have hbq:b≠q:=fun e9=>hne.ne (by rw [hv,ha,e9];rfl)
  rw [World.cell?_of_block (w:=w) (a:=⟨b,off+j,none⟩) (heap_setCell_other w ⟨q,0,none⟩ b v' hbq)];exact hcell j u hj
theorem Sl_pre {w:World}{a:Option Addr}{m c n:Nat}{xs:List Value}(h:Sl w (.slice a m c) xs)(hn:n≤xs.length):Sl w (.slice a n c) (xs.take n):=by
 obtain ⟨a',c',e,hc,hm,h9⟩:=h;injection e with e1 e2 e3;subst e1 e3;refine ⟨a,c,by rw [List.length_take,Nat.min_eq_left hn],by rw [List.length_take];omega,hm,?_⟩;rcases h9 with ⟨rfl,h10⟩ | ⟨b,off,h10,hlt,hcell⟩
 ·exact Or.inl ⟨by simp,h10⟩
 ·refine Or.inr ⟨b,off,h10,hlt,fun j u hj=>hcell j u ?_⟩;rw [List.getElem?_take] at hj;split at hj
  ·exact hj
  ·cases hj
theorem Sl_suf {w:World}{a:Option Addr}{m c n:Nat}{xs:List Value}(h:Sl w (.slice a m c) xs)(hn:n≤xs.length)(hne:c≠n):Sl w (.slice (a.map fun x=>x.add n) (m-n) (c-n)) (xs.drop n):=by
 obtain ⟨a',c',e,hc,hm,h9⟩:=h;injection e with e1 e2 e3;subst e1 e2 e3;refine ⟨_,c-n,by rw [List.length_drop],by rw [List.length_drop];omega,by omega,?_⟩;rcases h9 with ⟨rfl,h10⟩ | ⟨b,off,h10,hlt,hcell⟩
 ·simp at hn;omega
 ·subst h10;refine Or.inr ⟨b,off+n,by simp [addr_add],hlt,fun j u hj=>?_⟩;rw [List.getElem?_drop] at hj;rw [Nat.add_assoc];exact hcell _ u hj
theorem Sl_end {w:World}{a:Option Addr}{m n:Nat}{xs:List Value}(h:Sl w (.slice a m n) xs)(hn:n≤xs.length):Sl w (.slice a (m-n) 0) (xs.drop n):=by
 obtain ⟨a',c',e,hc,hm,h9⟩:=h;injection e with e1 e2 e3;subst e1 e2 e3;have e:xs.drop n=[]:=List.drop_of_length_le (by omega);rw [e];exact ⟨a,0,by rw [List.length_nil];congr 1;omega,Nat.le_refl _,by unfold maxLen;omega,Or.inl ⟨rfl,rfl⟩⟩
theorem ob_map {a:Option Addr}{q n m c m' c':Nat}(h:OwnLt (Value.slice a m c) q):OwnLt (Value.slice (a.map fun x=>x.add n) m' c') q:=by
 cases a with
 | none=>exact h
 | some a=>
  intro b h9;apply h;have e:(a.add n).block = a.block:=by unfold Addr.add;split<;>rfl
  have h8:some (a.add n).block = some b:=h9;rw [e] at h8;exact h8
theorem ob_same {a:Option Addr}{q m c m' c':Nat}(h:OwnLt (Value.slice a m c) q):OwnLt (Value.slice a m' c') q:=by
 cases a with
 | none=>exact h
 | some a=>exact h
theorem ob_nil (q:Nat):OwnLt (.slice none 0 0) q:=fun b h=>by cases h
theorem Rs.kp {F:Nat→Prop}{w w':World}{q:Nat}{l:List Nat}{e:Nat}(h:Rs w q l e)(hk:Kp F w w')(hF:∀b,b≤q→ ¬F b):Rs w' q l e:=by
 have hp:=h.lt;obtain ⟨v,h1,h2,h3⟩:=h;exact ⟨v,by rw [hk.block q hp (hF q (Nat.le_refl _))];exact h1,Sl_kp h2 hk (fun b hb=>hF b (Nat.le_of_lt (h3 b hb))),h3⟩
theorem Rd.kp {F:Nat→Prop}{w w':World}{r q:Nat}{l:List Nat}{e:Nat}(h:Rd w r q l e)(hk:Kp F w w')(hF:∀b,b≤q∨b=r→ ¬F b):Rd w' r q l e:=by
 obtain ⟨h1,h2,h3⟩:=h;exact ⟨by rw [hk.block r (Array.getElem?_eq_some_iff.1 h1).1 (hF r (Or.inr rfl))];exact h1,h2,h3.kp hk (fun b hb=>hF b (Or.inl hb))⟩
theorem Sl_set {w:World}{q i:Nat}{v v':Value}{xs:List Value}(hs:Sl w v' xs)(hne:v'.ownBlock≠some q):Sl (w.setCell ⟨q,i,none⟩ v) v' xs:=by
 obtain ⟨a,cap,hv,hc,hm,h⟩:=hs;refine ⟨a,cap,hv,hc,hm,?_⟩;rcases h with h | ⟨b,off,ha,hlt,hcell⟩
 ·exact Or.inl h
 ·refine Or.inr ⟨b,off,ha,by simpa using hlt,fun j u hj=>?_⟩;have hbq:b≠q:=fun e9=>hne (by rw [hv,ha,e9];rfl)
  rw [World.cell?_of_block (w:=w) (a:=⟨b,off+j,none⟩) (heap_setCell_other w ⟨q,i,none⟩ b v hbq)];exact hcell j u hj
theorem take_any (q:Nat)(l:List Nat)(e n:Nat)(w:World)(hR:Rs w q l e)(hn:n≤1000000):
 Calls Tryz.prog 180 #[.pointer (some ⟨q,0,none⟩),.int .i64 n] w fun o w'=> ∃v',o = .returned v'∧Sl w' v' (Lb (tkB l e n))∧v'.ownBlock≠some q∧Rs w' q (tkL l e n) (tkE l e n)∧Kp (· = q) w w':=by
 have hlt:=hR.lt;have HR:=hid hR;obtain ⟨v,h1,h2,h3⟩:=hR;obtain ⟨a,c,rfl,hc,hcm⟩:=Sl_partsB h2;have hc0:w.cell? ⟨q,0,none⟩=some (.slice a l.length c):=(blk h1).1 0;have hc1:w.cell? ⟨q,1,none⟩=some (.int .i64 e):=(blk h1).1 1;have hf0:=(blk h1).2.1 0;have hf1:=(blk h1).2.1 1;have HS:=hid h2;have H1:=hid h1;have H3:=hid h3;have hn0:¬(n:Int)<0:=by omega
 clear h1 h2 h3;by_cases he:e=0
 ·subst he;by_cases hnl:n≤l.length
  ·have hnl':¬(l.length:Int)<(n:Int):=by omega
   go_enter Tryz.func180,Tryz.ntmps180;go_wp2_with fail;case inl=>
    subst h;go_ret;exact ⟨_,rfl,by unfold tkB;rw [if_pos ⟨rfl,hnl⟩,←Lb_take];exact Sl_set (Sl_pre HS.out (by rw [Lb_len];exact hnl)) (ob_same H3.out).ne,(ob_same H3.out).ne,by unfold tkL tkE;rw [if_pos rfl,if_pos hnl,if_pos rfl,if_pos hnl];exact Rs.set H1.out (by rw [←Lb_drop];exact Sl_end HS.out (by rw [Lb_len];exact hnl)) (ob_same H3.out) rfl,(Kp.refl (· = q) w).setCell (show (q:Nat)=q from rfl) _⟩
   case inr=>
    go_ret;exact ⟨_,rfl,by unfold tkB;rw [if_pos ⟨rfl,hnl⟩,←Lb_take];exact Sl_set (Sl_pre HS.out (by rw [Lb_len];exact hnl)) (ob_same H3.out).ne,(ob_same H3.out).ne,by unfold tkL tkE;rw [if_pos rfl,if_pos hnl,if_pos rfl,if_pos hnl];exact Rs.set H1.out (by rw [←Lb_drop];exact Sl_suf HS.out (by rw [Lb_len];exact hnl) h) (ob_map H3.out) rfl,(Kp.refl (· = q) w).setCell (show (q:Nat)=q from rfl) _⟩
  ·have hnl':(l.length:Int)<(n:Int):=by omega
   go_enter Tryz.func180,Tryz.ntmps180;go_wp2_with fail;go_ret;have e1:=heap_setCell_same w q 0 _ 180 (.slice none 0 0) H1.out;have e2:=heap_setCell_same _ q 1 _ 180 (.int .i64 4) e1;exact ⟨_,rfl,by unfold tkB;rw [if_neg (by omega)];exact Sl_nil _,by simp [Value.ownBlock],by unfold tkL tkE;rw [if_pos rfl,if_neg hnl,if_pos rfl,if_neg hnl];exact ⟨_,e2,Sl_nil _,ob_nil _⟩,((Kp.refl (· = q) w).setCell (show (q:Nat)=q from rfl) _).setCell (show (q:Nat)=q from rfl) _⟩
 ·have he':¬(e:Int)=0:=by omega
  go_enter Tryz.func180,Tryz.ntmps180;go_wp2_with fail;go_ret;exact ⟨_,rfl,by unfold tkB;rw [if_neg (by omega)];exact Sl_nil _,by simp [Value.ownBlock],by unfold tkL tkE;rw [if_neg he,if_neg he];exact HR.out,Kp.refl _ _⟩
end
end Go.Proofs.YtdjiopacieadpaaGreatDoor
