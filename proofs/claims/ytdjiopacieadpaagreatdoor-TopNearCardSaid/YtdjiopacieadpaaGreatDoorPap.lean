/- TopNear: part Pap: BkP BkQ BkS RfA BkT. -/
import Derived.Test.YtdjiopacieadpaaGreatDoorPao
import Derived.RangeFuncLeaves
import Derived.Shelf.Abstract
import Derived.OwnWalkIn
import Derived.TacticsInMore
import Derived.LoopNIn
import Derived.LoopIn
set_option linter.unusedVariables false
set_option linter.unusedSimpArgs false
set_option maxRecDepth 8000
set_option maxHeartbeats 8000000
namespace Go.Proofs.YtdjiopacieadpaaGreatDoor
section
open Go.RowKit BookPlain
theorem info160:(Tryz.prog.info? 160).map (fun i=>(i.zero,i.size,i.bytes))=some (some (.agg #[.int .u32 0,.int .i64 0,.int .i64 0]),3,24):=by kernel_rfl
theorem made160 (n:Nat):madeCells #[.int .u32 0,.int .i64 0,.int .i64 0] (n*3)=((List.replicate n z).flatMap boC).toArray :=by
 apply Array.ext
 ·rw [size_madeCells,List.size_toArray,boC_len,List.length_replicate]
 ·intro i h1 h2;rw [size_madeCells] at h1;have hq:i / 3<n:=by omega
  have hr:i % 3<3:=Nat.mod_lt _ (by omega);have hg:=boC_get (List.replicate n z) (i / 3) (i % 3) hr;rw [show i / 3*3+i % 3=i by omega,List.getElem?_replicate,if_pos hq] at hg;have h3:(((List.replicate n z).flatMap boC).toArray)[i]?=(boC z)[i % 3]? :=by rw [List.getElem?_toArray];exact hg
  have h4:(((List.replicate n z).flatMap boC).toArray)[i]?=some (((List.replicate n z).flatMap boC).toArray)[i]:=Array.getElem?_eq_getElem h2;rw [h4] at h3;simp only [madeCells,Array.getElem_map,Array.getElem_range];match hm:i % 3,hr with
  | 0,_=>rw [hm] at h3;injection h3 with h3;rw [h3];simp [hm,z]
  | 1,_=>rw [hm] at h3;injection h3 with h3;rw [h3];simp [hm,z]
  | 2,_=>rw [hm] at h3;injection h3 with h3;rw [h3];simp [hm,z]
theorem run_make160 (n:Nat)(hn:n≤10000)(w:World):(Instr.makeSlice 201 (.int .i64 n) (.int .i64 n)).run Tryz.prog w = .ok (.slice (some ⟨w.heap.size,0,none⟩) n n) (w.alloc (.cells ((List.replicate n z).flatMap boC).toArray 160)):=by
 obtain ⟨i0,hi,hz0,hz1,hz2⟩:=info_parts info160;have h:=run_makeSlice (P:=Tryz.prog) w 201 160 i0 _ Tryz.underlying201 hi hz0 .i64 .i64 (n:Int) (n:Int) (by omega) (by omega) (by rw [hz1];simp;omega) (by rw [hz2];omega) (by omega);rw [h,hz1];simp only [Int.toNat_natCast];rw [show (Value.agg #[.int .u32 0,.int .i64 0,.int .i64 0]).cells = #[.int .u32 0,.int .i64 0,.int .i64 0] from rfl,made160]
def newB (s c g:Nat):Bk:=⟨s,c,g,0,1,List.replicate s z⟩
theorem newB_get (s c g k:Nat):BookPlain.get (newB s c g) k=none:=by
 unfold BookPlain.get;split
 ·rfl
 ·rw [List.find?_eq_none];intro x hx;have e:=List.eq_of_mem_replicate hx;rw [e];rename_i h;simp [z];omega
theorem newB_held (s c g i:Nat):held (newB s c g) i=false:=by
 unfold held newB;simp only [List.getElem?_replicate];split<;>rfl
theorem newB_fine {s c g:Nat}(hs:1≤s∧s≤24)(hc:1≤c∧c≤24)(hg:1≤g∧g≤64):Fine (newB s c g):=by
 have hz:∀(i:Nat) (x:Bo),(newB s c g).l[i]?=some x→x=z:=fun i x hx=>List.eq_of_mem_replicate (List.mem_of_getElem? hx)
 refine ⟨List.length_replicate,hs,hc,hg,fun i x hx=>Or.inl (hz i x hx),fun i k x y hx _ _ h0=>?_,?_⟩
 ·rw [hz i x hx] at h0;exact absurd rfl h0
 ·show nT (List.replicate s z)≤c
  rw [nT_replicate];omega
theorem newB_sound {s c g:Nat}(hs:1≤s∧s≤24)(hc:1≤c∧c≤24)(hg:1≤g∧g≤64):Sound (newB s c g):=by
 refine ⟨newB_fine hs hc hg,fun i x hx h0=>?_,⟨Nat.le_refl _,by show 1≤4294967295;omega⟩,Nat.zero_le _⟩;rw [show x=z from List.eq_of_mem_replicate (List.mem_of_getElem? hx)] at h0;exact absurd rfl h0
def bk0 (s c g sb mh:Nat)(a b d:Value):Array Value:=#[.int .i64 s,.int .i64 c,.int .i64 g,.bool true,.int .i64 0,.int .u32 1,a,b,.slice (some ⟨sb,0,none⟩) s s,d,.map (some mh)]
structure Bn (w wc:World)(p sb mh s c g:Nat)(x y v:Value):Prop where
 bel:Below w.heap.size w wc
 hd:wc.heap[p]?=some (Obj.cells (bk0 s c g sb mh x y v) 207 (0,0))
 row:wc.heap[sb]?=some (Obj.cells ((List.replicate s z).flatMap boC).toArray 160 (0,0))
 mp:wc.heap[mh]?=some (.map #[] 0)
 bx:wc.heap[w.heap.size]?=some (Obj.cells #[.int .i64 s,.int .i64 c,.int .i64 g] 23 (0,0))
 ge:w.heap.size<p∧w.heap.size<sb∧w.heap.size<mh
theorem Bn.new {w wc w':World}{p sb mh s c g:Nat}{x y v:Value}(h:Bn w wc p sb mh s c g x y v)(hb:Below wc.heap.size wc w'):Bn w w' p sb mh s c g x y v:=
 ⟨h.bel.trans (hb.mono h.bel.size),Bl.blk hb h.hd,Bl.blk hb h.row,Bl.blk hb h.mp,Bl.blk hb h.bx,h.ge⟩
theorem Bn.set {w wc:World}{p sb mh s c g:Nat}{x y v:Value}(h:Bn w wc p sb mh s c g x y v){i:Nat}{u:Value}{x' y' v':Value}(he:(bk0 s c g sb mh x y v).setIfInBounds i u=bk0 s c g sb mh x' y' v'):Bn w (wc.setCell ⟨p,i,none⟩ u) p sb mh s c g x' y' v'∧Kp (· = p) wc (wc.setCell ⟨p,i,none⟩ u):=by
 have h1:=heap_setCell_same wc p i _ 207 u h.hd;have hk:=(Kp.refl (· = p) wc).setCell (p:=⟨p,i,none⟩) rfl u;have n1:sb≠p:=ty_ne h.row h.hd (by decide);have n2:mh≠p:=fun e=>by have h9:=h.hd;rw [←e,h.mp] at h9;cases h9
 have n3:=h.ge.1;exact ⟨⟨h.bel.setCell (p:=⟨p,i,none⟩) (Nat.le_of_lt n3) u,by rw [h1,he],hk.blk h.row n1,hk.blk h.mp n2,hk.blk h.bx (by omega),h.ge⟩,hk⟩
def BNew (s c g:Nat)(w:World)(e:Ending)(w':World):Prop:= ∃p F,e = .returned (.tuple #[.pointer (some ⟨p,0,none⟩),.int .i64 0])∧Bkk w' p F 0 (newB s c g)∧(∀x,F x→w.heap.size≤x)∧Below w.heap.size w w'
theorem bknew_any (s c g:Nat)(w:World)(hs:1≤s∧s≤24)(hc:1≤c∧c≤24)(hg:1≤g∧g≤64):Calls Tryz.prog 55 #[.agg #[.int .i64 s,.int .i64 c,.int .i64 g]] w (BNew s c g w):=by
 have N:=new1 w (.cells #[.int .i64 s,.int .i64 c,.int .i64 g] 23);obtain ⟨x0,_,x1,_,x2,_⟩:=cells3 N.1;have HN:=hid N;have HS:=hid (And.intro hs (And.intro hc hg));have HC:=hid (geoCheck_ok s c g (w.alloc (.cells #[.int .i64 s,.int .i64 c,.int .i64 g] 23)) (by omega) (by omega) (by omega) (by omega) (by omega) (by omega));have HMK:=hid (run_make160 s (by omega));clear N hs hc hg;generalize hAe:w.heap.size=A at *;have HAE:=hid hAe;clear hAe;go_enter Tryz.func55,Tryz.ntmps55;go_wp2_with fail;rw [HAE.out];generalize w.alloc (.cells #[.int .i64 s,.int .i64 c,.int .i64 g] 23)=W at *;refine HC.out.mono ?_;rintro e w2 ⟨rfl,hb2⟩;have hX:=Bl.blk hb2 HN.out.1;clear x0 x1 x2;obtain ⟨x0,_,x1,_,x2,_⟩:=cells3 hX;have HX:=hid hX;have HB2:=hid (HN.out.2.2.trans (hb2.mono (by have:=HN.out.2.1;omega)));have hsz:A<w2.heap.size:=heap_lt hX;clear hb2 hX;have hmk:=HMK.out;have hmm:∀w:World,(Instr.makeMap 202 none).run Tryz.prog w = .ok (.map (some w.heap.size)) (w.alloc (.map #[] 0)):=fun w=>by simp [Instr.makeMap]
 go_wp2_with fail;go_cut [5] (fun s5 wc=> ∃p sb mh,s5 = .pointer (some ⟨p,0,none⟩)∧Bn w wc p sb mh s c g (.pointer none) (.pointer none) (.pointer none))
 case first=>
  go_region
  all_goals
   go_wp2_with fail;go_meet
  all_goals
   first
   | (
    have N3:=new3 w2 (Obj.map #[] 0) (Obj.cells (List.flatMap boC (List.replicate s z)).toArray 160) (Obj.cells (bk0 s c g (w2.heap.size+1) w2.heap.size (.pointer none) (.pointer none) (.pointer none)) 207);exact ⟨w2.heap.size+2,w2.heap.size+1,w2.heap.size,rfl,⟨by rw [HAE.out];exact (HB2.out.trans (N3.2.2.2.2.mono (Nat.le_of_lt hsz))).drew,N3.2.2.1,N3.2.1,N3.1,by rw [HAE.out];exact Bl.blk N3.2.2.2.2.drew HX.out,by rw [HAE.out];omega⟩⟩)
   | (
    have N3:=new3 w2 (Obj.cells (List.flatMap boC (List.replicate s z)).toArray 160) (Obj.map #[] 0) (Obj.cells (bk0 s c g w2.heap.size (w2.heap.size+1) (.pointer none) (.pointer none) (.pointer none)) 207);exact ⟨w2.heap.size+2,w2.heap.size,w2.heap.size+1,rfl,⟨by rw [HAE.out];exact (HB2.out.trans (N3.2.2.2.2.mono (Nat.le_of_lt hsz))).drew,N3.2.2.1,N3.1,N3.2.1,by rw [HAE.out];exact Bl.blk N3.2.2.2.2.drew HX.out,by rw [HAE.out];omega⟩⟩)
 case rest=>
  obtain ⟨p,sb,mh,rfl,hn⟩:=hcut;clear x0 x1 x2 hmk hmm hsz;have hpA:p≠A:=by have:=hn.ge.1;have:=HAE.out;omega
  have hAp:A≠p:=fun e=>hpA e.symm
  have HBN:=hid (bnew_any s wc HS.out.1.1 HS.out.1.2);have hbx:=hn.bx;rw [HAE.out] at hbx;obtain ⟨x0,_,x1,_,x2,_⟩:=cells3 hbx;have hpw:=heap_lt hn.hd;have HN1:=hid hn;clear hn hbx;go_wp2_with fail;refine HBN.out.mono ?_;rintro e w3 ⟨tk,tg,rfl,hbt,ht1,ht2,ht3,hb3⟩;have hn3:=HN1.out.new hb3;obtain ⟨hn4,hk4⟩:=hn3.set (i:=6) (u:= .pointer (some ⟨tk,0,none⟩)) (x':= .pointer (some ⟨tk,0,none⟩)) (y':= .pointer none) (v':= .pointer none) rfl;have hbt4:=hbt.kp hk4 (by omega) (by omega);have HN4:=hid hn4;have HBT:=hid hbt4;have HT:=hid (And.intro ht1 (And.intro ht2 (And.intro ht3 hpw)));have c6:w3.cell? ⟨p,6,none⟩=some (.pointer none):=(blk hn3.hd).1 6;have f6:=(blk hn3.hd).2.1 6;have hbx:=hn3.bx;rw [HAE.out] at hbx;clear x0 x1 x2;obtain ⟨x0,_,x1,_,x2,_⟩:=cells3 hbx;have HIN:=hid (inew_any c (w3.setCell ⟨p,6,none⟩ (.pointer (some ⟨tk,0,none⟩))) HS.out.2.1.1 HS.out.2.1.2);clear hn3 hn4 hk4 hbt hbt4 hb3 ht1 ht2 ht3 hbx hpw;go_wp2_with fail;refine HIN.out.mono ?_;rintro e w5 ⟨ix,Fi,rfl,hid5,hFi,hb5⟩;have hn5:=HN4.out.new hb5;obtain ⟨hn6,hk6⟩:=hn5.set (i:=7) (u:= .pointer (some ⟨ix,0,none⟩)) (x':= .pointer (some ⟨tk,0,none⟩)) (y':= .pointer (some ⟨ix,0,none⟩)) (v':= .pointer none) rfl;have hs34:=cell_size w3 ⟨p,6,none⟩ (.pointer (some ⟨tk,0,none⟩));have hlt3:p<w3.heap.size∧sb<wc.heap.size∧mh<wc.heap.size:=⟨by have:=HT.out.2.2.2;have:=heap_lt HN4.out.hd;omega,heap_lt HN1.out.row,heap_lt HN1.out.mp⟩;have hid6:=hid5.stay hk6 (fun b hb e=>by have:=hFi b hb;omega);have hbt6:=(HBT.out.new hb5).kp hk6 (by have:=HT.out;omega) (by have:=HT.out;omega);have hl3:=heap_lt HBT.out.hd;have hl4:=heap_lt HBT.out.wd;have c7:w5.cell? ⟨p,7,none⟩=some (.pointer none):=(blk hn5.hd).1 7;have f7:=(blk hn5.hd).2.1 7;have HNH:=hid (hqnew_any (w5.setCell ⟨p,7,none⟩ (.pointer (some ⟨ix,0,none⟩))));have hs56:=cell_size w5 ⟨p,7,none⟩ (.pointer (some ⟨ix,0,none⟩));have HN6:=hid hn6;have HBT6:=hid hbt6;have HID6:=hid hid6;have HLT:=hid (And.intro hlt3 (And.intro hl3 hl4));have HFI:=hid (And.intro hFi hs34);have HS56:=hid (And.intro hs56 hb5.size);clear hn5 hn6 hk6 hid5 hFi hb5 hs34 hlt3 hid6 hbt6 hl3 hl4 hs56 x0 x1 x2 c6 f6;go_wp2_with fail;refine HNH.out.mono ?_;rintro e w7 ⟨hq,Fh,rfl,hq7,hFq,hFh,hb7⟩;have hn7:=HN6.out.new hb7;obtain ⟨hn8,hk8⟩:=hn7.set (i:=9) (u:= .pointer (some ⟨hq,0,none⟩)) (x':= .pointer (some ⟨tk,0,none⟩)) (y':= .pointer (some ⟨ix,0,none⟩)) (v':= .pointer (some ⟨hq,0,none⟩)) rfl;have c9:w7.cell? ⟨p,9,none⟩=some (.pointer none):=(blk hn7.hd).1 9;have f9:=(blk hn7.hd).2.1 9;have hE:BNew s c g w (.returned (.tuple #[.pointer (some ⟨p,0,none⟩),.int .i64 0])) (w7.setCell ⟨p,9,none⟩ (.pointer (some ⟨hq,0,none⟩))):=by
   have q1:=HLT.out;have q2:=HT.out;have q3:=HS56.out;have q4:=HFI.out;have q5:=HID6.out.flt;have q6:=HN1.out.ge;have q7:=HN1.out.bel.size;rw [q3.1] at q5 hFh;have hFi:=q4.1;rw [q4.2] at hFi q3 q1;have n1:sb≠p:=ty_ne HN1.out.row HN1.out.hd (by decide);have n2:mh≠p:=fun e=>by have h9:=HN1.out.hd;rw [←e,HN1.out.mp] at h9;cases h9
   have n3:mh≠sb:=fun e=>by have h9:=HN1.out.row;rw [←e,HN1.out.mp] at h9;cases h9
   refine ⟨p,_,rfl,⟨⟨p,tk,tg,ix,sb,hq,mh,Fi,Fh,s,c,g,0,1,0,List.replicate s z,fun _=>none,0,0,[],fun _=>none⟩,⟨hn8.hd,hn8.row,List.length_replicate,?_,?_,?_,⟨0,(Mf.of_block hn8.mp).congr (fun i _=>by unfold hdF;simp),Nat.le_refl _⟩,⟨by dsimp only;omega,by dsimp only;omega,⟨fun e=>?_,fun e=>?_,fun e=>?_,fun e=>?_,fun e=>?_⟩,⟨fun e=>?_,fun e=>?_,fun e=>?_,fun e=>?_,fun e=>?_⟩,fun b hb hb2=>?_⟩⟩,⟨rfl,rfl,rfl,rfl,rfl,rfl,fun k=>?_,?_,fun i hi=>?_,⟨fun u i a=>?_,fun i=>?_⟩,?_⟩,rfl,rfl,?_⟩,?_,hn8.bel⟩
   ·exact (HBT6.out.new hb7).kp hk8 (by omega) (by omega)
   ·exact (HID6.out.new hb7).stay hk8 (fun b hb e=>by have:=hFi b hb;omega)
   ·exact hq7.stay hk8 (fun b hb e=>by have:=hFh b hb;omega)
   ·have:=hFi _ e;dsimp only at this;omega
   ·have:=hFi _ e;dsimp only at this;omega
   ·have:=hFi _ e;dsimp only at this;omega
   ·have:=hFi _ e;dsimp only at this;omega
   ·have:=hFi _ e;dsimp only at this;omega
   ·have:=hFh _ e;dsimp only at this;omega
   ·have:=hFh _ e;dsimp only at this;omega
   ·have:=hFh _ e;dsimp only at this;omega
   ·have:=hFh _ e;dsimp only at this;omega
   ·have:=hFh _ e;dsimp only at this;omega
   ·have:=hFh _ hb2;have:=q5 _ hb;omega
   ·rw [newB_get];rfl
   ·exact (nT_replicate s).symm
   ·show (0:Nat).testBit i=_
    rw [Nat.zero_testBit,newB_held]
   ·simp
   ·simp [uB,newB_get]
   ·exact newB_fine HS.out.1 HS.out.2.1 HS.out.2.2
   ·show 0+nT (List.replicate s z)≤0
    rw [nT_replicate];exact Nat.le_refl _
   ·rintro x (e | e | e | e | e | e | e)<;>dsimp only at e
    ·omega
    ·omega
    ·omega
    ·omega
    ·omega
    ·have:=hFi _ e;omega
    ·have:=hFh _ e;omega
  have HE:=hid hE;clear hn7 hn8 hk8 hq7 hFq hFh hb7 hE;go_wp2_with fail;go_ret2;exact HE.out
theorem bmay_yes (m:Bm)(id seat u last:Nat)(w:World)(hw:Bw w m)(h1:last<id)(h2:id<m.nx)(h3:seat<m.s)(h4:m.W.testBit seat=false)(h5:u=0∨(m.q<u∧u≤M)):Calls Tryz.prog 151 #[.pointer (some ⟨m.p,0,none⟩),.agg #[.int .u32 id,.int .i64 seat,.int .i64 u],.int .u32 last] w fun e w'=>e = .returned (.bool true)∧Below w.heap.size w w':=by
 have N:=new1 w (.cells #[.int .u32 id,.int .i64 seat,.int .i64 u] 160);have hA:=hw.new N.2.2;have c5:=hA.hc.c5;have c0:=hA.hc.c0;have c6:=hA.hc.c6;have c4:=hA.hc.c4;obtain ⟨x0,_,x1,_,x2,_⟩:=cells3 N.1;have hcl:=bhas_in m.tk m.tg m.s m.W seat;have HA:=hid hA;have HN:=hid N;have hC:∀W9,Below (w.alloc (.cells #[.int .u32 id,.int .i64 seat,.int .i64 u] 160)).heap.size (w.alloc (.cells #[.int .u32 id,.int .i64 seat,.int .i64 u] 160)) W9→Calls Tryz.prog 182 #[.pointer (some ⟨m.tk,0,none⟩),.int .i64 seat] W9 fun e w'=>e = .returned (.bool false)∧W9=w':=fun W9 hb=>by
  have:=bhas_in m.tk m.tg m.s m.W seat _ (hA.new hb).tkn h3;rw [h4] at this;exact this
 have HC:=hid hC;have d1:decide (id≤last)=false:=by simp;omega
 have d2:decide (m.nx≤id)=false:=by simp;omega
 have d3:decide (m.s≤seat)=false:=by simp;omega
 have e1:decide ((id:Int)≤(last:Int))=false:=by simp;omega
 have e2:decide ((m.nx:Int)≤(id:Int))=false:=by simp;omega
 have e3:decide ((m.s:Int)≤(seat:Int))=false:=by simp;omega
 have e4:decide ((seat:Int)<0)=false:=by simp
 have H5:=hid h5;clear hw hA N hcl hC h1 h2 h3 h4 h5;go_enter Tryz.func151,Tryz.ntmps151;go_wp2_with fail;generalize w.alloc (.cells #[.int .u32 id,.int .i64 seat,.int .i64 u] 160)=W at *;generalize hAe:w.heap.size=A at *;go_quiet ((go_at_call 182;exact Calls.quiet_of_same ((HC.out _ (below_drewN (Below.refl _ _) _)).mono (fun _ _ h=>⟨h.1,h.2.symm⟩))))
 have HQ:Hid (Below A w (W.drewN nq)):=hid (below_drewN HN.out.2.2 nq);by_cases hu:u=0
 ·have huI:((u:Int) == 0)=true:=by simp;omega
  clear hu;go_wp2_with fail;go_ret;exact ⟨rfl,by rw [hAe];exact HQ.out⟩
 ·have huI:((u:Int) == 0)=false:=by simp;omega
  have h5:=H5.out;have hM:M=1099511627776:=rfl;have g1:decide (m.q<u)=true:=by simp;omega
  have g2:decide ((m.q:Int)<(u:Int))=true:=by simp;omega
  have g3:decide ((u:Int)≤1099511627776)=true:=by simp;omega
  have g4:decide (u≤1099511627776)=true:=by simp;omega
  clear hu h5 hM;go_wp2_with fail;go_quiet (fail)
  go_wp2_with fail;go_ret;exact ⟨rfl,by rw [hAe];exact below_drewN HQ.out _⟩
def bkO (b:Bk)(s:IdxPlain.St):Bo:=(b.l[s.2.2]?).getD z
theorem bkO_of {m:Bm}{b:Bk}(h:Rl m b){l:Nat}{L:List IdxPlain.St}(hL:Lists m.M l L){s:IdxPlain.St}(hs:s∈L):b.l[s.2.2]?=some (bkO b s)∧(bkO b s).1=s.2.1∧(bkO b s).1≠0∧s.2.2<b.s:=by
 have h1:=hL.one s hs;obtain ⟨a,k,v⟩:=s;dsimp only at h1 ⊢;subst h1;have hM:=(hL.is k v).2 hs;rw [h.M] at hM;cases hg:get b k with
 | none=>rw [hg] at hM;cases hM
 | some y=>
  rw [hg] at hM;simp only [Option.map_some,Option.some.injEq] at hM;obtain ⟨g0,g1,g2,g3⟩:=get_some h.fine hg;rw [hM] at g2 g3;unfold bkO;dsimp only;rw [g2];exact ⟨rfl,g1,by rw [Option.getD_some,g1];exact g0,g3⟩
theorem bkO_list {m:Bm}{b:Bk}(h:Rl m b){l:Nat}{L:List IdxPlain.St}(hL:Lists m.M l L):L.map (bkO b)=listB b:=by
 refine listB_unique h.fine ?_ ?_
 ·have key:∀K:List IdxPlain.St,(∀s∈K,s∈L)→K.Pairwise (fun a b=>a.2.1<b.2.1)→BookPlain.Up (K.map (bkO b)):=by
   intro K;induction K with
   | nil=>intro _ _;exact trivial
   | cons s K ih=>
    intro hK hp;refine ⟨fun y hy=>?_,ih (fun s hs=>hK s (List.mem_cons_of_mem _ hs)) (List.pairwise_cons.1 hp).2⟩;obtain ⟨t,ht,rfl⟩:=List.mem_map.1 hy;rw [(bkO_of h hL (hK s (List.mem_cons_self ..))).2.1,(bkO_of h hL (hK t (List.mem_cons_of_mem _ ht))).2.1];exact (List.pairwise_cons.1 hp).1 t ht
  exact key L (fun _ h=>h) hL.up
 ·intro x;constructor
  ·intro hx;obtain ⟨s,hs,rfl⟩:=List.mem_map.1 hx;obtain ⟨h1,h2,h3,h4⟩:=bkO_of h hL hs;exact ⟨List.mem_of_getElem? h1,h3⟩
  ·rintro ⟨hx,h0⟩;obtain ⟨i,hi⟩:=List.getElem?_of_mem hx;have hg:=get_of h.fine hi h0;have hlie:=lies h.fine hi h0;have hM:m.M x.1=some x.2.1:=by rw [h.M,hg];rfl
   have hs:=(hL.is x.1 x.2.1).1 hM;refine List.mem_map.2 ⟨_,hs,?_⟩;unfold bkO;dsimp only;rw [hlie,hi];rfl
end
section
open Go.RowKit IdxPlain
def Kab (A g:Nat)(W W':World):Prop:=W'.heap[A]?=W.heap[A]? ∧W'.heap[g]?=W.heap[g]?
theorem Kab.trans {A g:Nat}{a b c:World}(h:Kab A g a b)(k:Kab A g b c):Kab A g a c:=⟨k.1.trans h.1,k.2.trans h.2⟩
theorem Kab.put {A g:Nat}{w:World}(hA:A<w.heap.size)(hg:g<w.heap.size)(W:World)(l:Nat)(o o':Obj)(hl:w.heap.size≤l)(h:W.heap[l]?=some o)(_:o.isCells=false)(_:o.isWalk=false):Kab A g W (W.putObj l o'):=by
 have:∀b,b≠l→(W.putObj l o').heap[b]?=W.heap[b]? :=fun b hb=>by
  unfold World.putObj;simp [Array.getElem?_setIfInBounds,hb.symm]
 exact ⟨this A (by omega),this g (by omega)⟩
def siE (s:St):Array Value:=#[.int .u32 s.2.1,.int .i64 s.2.2]
set_option maxRecDepth 100000 in
theorem all1_in {α:Type}(f:α→St)(n l A g cap:Nat)(L:List α)(J Jx:List α→World→Prop)(B:Nat)(hJ:AbidesFrom B J)(hY:∀pre x W1,J pre W1→pre.length<L.length→YieldAt Fence.wide (n-1) Tryz.prog l (siE (f x)) W1 fun e W'=>(e = .returned (.bool true)∧J (pre++[x]) W'∧Kab A g W1 W')∨(e = .returned (.bool false)∧Jx (pre++[x]) W'))(W:World)(hA:W.heap[A]?=some (Obj.cells #[.slice (some ⟨g,0,none⟩) L.length cap] 254 (0,0)))(hR:R3 W g (L.map f))(h0:J [] W)(hL9:L.length≤1000):
 CallsIn Fence.wide n Tryz.prog 197 #[.func (.yield l) #[] #[],.pointer (some ⟨A,0,none⟩)] W fun e W'=>(∃v,e = .returned v)∧((∃xs,xs=L∧J xs W')∨(∃pre,True∧Jx pre W')):=by
 refine callsIn_of_wp Tryz.func197 rfl trivial ?_ rfl;simp only [Tryz.ntmps197,List.size_toArray,List.length_cons,List.length_nil,Nat.reduceAdd,Nat.reduceSub,Array.replicate_succ,Array.replicate_zero,List.push_toArray,List.append_toArray,List.nil_append,List.cons_append];obtain ⟨c0,f0⟩:=cells1 hA;have HA:=hid hA;have HR:=hid hR;have HY:=hid hY;have HJ:=hid hJ;have H0:=hid h0;clear hA hR hY hJ h0;gi_wp2
 gi_loopw [7] (fun i wr=> ∃k:Nat,i = .int .i64 k∧k≤L.length∧J (L.take k) wr∧wr.heap[A]?=some (Obj.cells #[.slice (some ⟨g,0,none⟩) L.length cap] 254 (0,0))∧R3 wr g (L.map f)) (fun i wr=>L.length-(intOf i).toNat)
 case atStart=>exact ⟨0,rfl,Nat.zero_le _,H0.out,HA.out,HR.out⟩
 case round=>
  obtain ⟨k,rfl,hk,hJk,hA,hR⟩:=hrel;have HA:=hid hA;have HR:=hid hR;have HJk:=hid hJk;by_cases hlt:k<L.length
  ·have hkI:(k:Int)<(L.length:Int):=by omega
   have hLk:=List.getElem?_eq_getElem hlt;obtain ⟨d0,d1,d2⟩:=hR.cells (s:=f L[k]) (i:=k) (by rw [List.getElem?_map,hLk];rfl);have HLK:=hid (show L.take (k+1)=L.take k++[L[k]] from by rw [List.take_succ_eq_append_getElem hlt]);generalize hs:L[k]=s at *;obtain ⟨s1,s2,s3,h9⟩:∃s1 s2 s3,f s=(s1,s2,s3):=⟨_,_,_,rfl⟩;rw [h9] at d0 d1 d2;dsimp only at d0 d1 d2;have N:=new1 wr (.cells #[.int .u8 s1,.int .u32 s2,.int .i64 s3] 317);have hJ2:J (L.take k) (wr.alloc (.cells #[.int .u8 s1,.int .u32 s2,.int .i64 s3] 317)):=HJ.out (L.take k) wr _ none hJk (World.grownBy_alloc wr _ none) (fun r e=>by cases e);obtain ⟨fn,tmps,assign,body,hy,hround⟩:=HY.out (L.take k) s _ hJ2 (by rw [List.length_take];omega);rw [h9] at hy;have hy':(Instr.yield l #[.int .u32 s2,.int .i64 s3]).run Tryz.prog (wr.alloc (.cells #[.int .u8 s1,.int .u32 s2,.int .i64 s3] 317))=_:=hy;have HRD:=hid hround;clear h9;have HA2:=hid (Bl.blk N.2.2 hA);have HR2:=hid (hR.new N.2.2);have hgl:=hR.lt;clear hA hR hJk N hJ2 hy hround hLk hlt hs;gi_wp2
   refine ⟨fun e=>by simp [Fence.wide] at e,HRD.out.mono ?_⟩;rintro e W3 (⟨rfl,hJ3,hk3⟩ | ⟨rfl,hJx3⟩)
   ·have HA3:=hid (hk3.1.trans HA2.out);have HR3:Hid (R3 W3 g (L.map f)):=hid (by obtain ⟨X,hX⟩:=HR2.out;exact ⟨X,hk3.2.trans hX⟩);have HJ3:=hid hJ3;clear hJ3 hk3;gi_wp2
    go_roundw;case rel=>exact ⟨k+1,by go_num,by omega,by rw [HLK.out];exact HJ3.out,HA3.out,HR3.out⟩
    case measure=>simp [intOf];omega
   ·have HJX:=hid hJx3;clear hJx3;gi_wp2
    refine bodyPost_ret (results_none rfl _ _ _) rfl ?_;exact ⟨⟨_,rfl⟩,.inr ⟨_,trivial,HJX.out⟩⟩
  ·have hkI:¬(k:Int)<(L.length:Int):=by omega
   clear hA hR hJk;gi_wp2
   go_end0
   have:=HJk.out;rw [List.take_of_length_le (by omega)] at this;first | exact this | exact ⟨⟨_,rfl⟩,.inl ⟨L,rfl,this⟩⟩ | exact ⟨⟨_,rfl⟩,Or.inl this⟩
theorem iall_stops {α:Type}(f:α→St)(n A g cap:Nat)(L:List α)(w:World)(hA:w.heap[A]?=some (Obj.cells #[.slice (some ⟨g,0,none⟩) L.length cap] 254 (0,0)))(hR:R3 w g (L.map f))(hL9:L.length≤1000):
 SeqStopsK Fence.wide n Tryz.prog 197 #[.pointer (some ⟨A,0,none⟩)] (fun x=>siE (f x)) (Kab A g) (fun xs=>xs=L) (fun _=>True) L.length w:=fun l J Jx W hW hJ _ hY h0=>
 all1_in f n l A g cap L J Jx W.heap.size hJ hY W (Bl.blk hW hA) (hR.new hW) h0 hL9
end
section
open Go.RowKit BookPlain
attribute [local go_sem] Oper.semAt_some
def BList (w:World)(b:Bk)(e:Ending)(w':World):Prop:= ∃v,e = .returned v∧w'.ownsRow w.heap.size 160 3 v (nT b.l) ((listB b).flatMap boC)∧Below w.heap.size w w'
structure Bli (w w2:World)(b:Bk)(pre:List Bo)(W:World):Prop where
 kp:Kp (fun x=>x=w.heap.size+1) w2 W
 bx:∃v,Boxed W (w.heap.size+1) 201 v∧W.ownsRow w2.heap.size 160 3 v pre.length (pre.flatMap boC)
theorem own_turn {W W':World}{base:Nat}{e:TypeId}{size:Nat}{v:Value}{k:Nat}{xs:List Value}(h:W.ownsRow base e size v k xs){row:Option Nat}(hg:W.grownBy W' row)(hr:∀r,row=some r→ ∃o:Obj,W.heap[r]?=some o∧o.isCells=false):W'.ownsRow base e size v k xs:=by
 refine ⟨h.1,?_⟩;rcases h.2 with h2 | ⟨g,cap,cur,hv,hbg,hgb,r⟩
 ·exact Or.inl h2
 ·refine Or.inr ⟨g,cap,cur,hv,hbg,?_,r⟩;rw [hg.block g (heap_lt hgb) (fun e=>?_)]
  ·exact hgb
  ·obtain ⟨o,ho,hc⟩:=hr g e.symm;rw [hgb] at ho;cases ho;cases hc
theorem Bli.turn {w w2:World}{b:Bk}{pre:List Bo}{W W':World}(h:Bli w w2 b pre W){row:Option Nat}(hg:W.grownBy W' row)(hr:∀r,row=some r→w2.heap.size≤r∧ ∃o:Obj,W.heap[r]?=some o∧o.isCells=false):Bli w w2 b pre W':=by
 obtain ⟨v,h1,h2⟩:=h.bx;refine ⟨h.kp.grown hg (fun k e=>Or.inr (hr k e).1),v,h1.kept hg (fun e=>?_),own_turn h2 hg (fun r e=>(hr r e).2)⟩;obtain ⟨o,ho,hc⟩:=(hr _ e.symm).2;rw [show W.heap[w.heap.size+1]?=_ from h1] at ho;cases ho;cases hc
def Hs (w:World)(m:Bm)(k:Nat)(x:Bo)(W:World):Prop:=W.cell? ⟨w.heap.size,0,none⟩=some (.pointer (some ⟨m.p,0,none⟩))∧W.cell? ⟨m.p,8,none⟩=some (.slice (some ⟨m.sb,0,none⟩) m.s m.s)∧W.cell? ⟨m.sb,k*3,none⟩=some (.int .u32 x.1)∧W.cell? ⟨m.sb,k*3+1,none⟩=some (.int .i64 x.2.1)∧W.cell? ⟨m.sb,k*3+2,none⟩=some (.int .i64 x.2.2)
theorem Hs.of {w:World}{m:Bm}{k:Nat}{x:Bo}{W W':World}(h:Hs w m k x W)(h1:W'.heap[w.heap.size]?=W.heap[w.heap.size]?)(h2:W'.heap[m.p]?=W.heap[m.p]?)(h3:W'.heap[m.sb]?=W.heap[m.sb]?):Hs w m k x W':=
 ⟨(World.cell?_of_block (w:=W) h1).trans h.1,(World.cell?_of_block (w:=W) h2).trans h.2.1,(World.cell?_of_block (w:=W) h3).trans h.2.2.1,(World.cell?_of_block (w:=W) h3).trans h.2.2.2.1,(World.cell?_of_block (w:=W) h3).trans h.2.2.2.2⟩
theorem blist_tail {w w2 W W1 w4:World}{m:Bm}{b:Bk}{PL:List Bo}{x:Bo}{k A g:Nat}{oa:Option Addr}{rn g9 cap9:Nat}(hI:Bli w w2 b PL W)(hbx:Boxed W (w.heap.size+1) 201 (.slice oa PL.length rn))(hown:W.ownsRow w2.heap.size 160 3 (.slice oa PL.length rn) PL.length (PL.flatMap boC))(hXB:Below W.heap.size W W1)(hXS:W1.heap.size=W.heap.size+1)(hown4:w4.ownsRow w2.heap.size 160 3 (.slice (some ⟨g9,0,none⟩) (PL.length+1) cap9) (PL.length+1) (PL.flatMap boC++boC x))(hgrow:W1.grownBy w4 (Value.slice oa PL.length rn).ownBlock)(hat:(Value.slice oa PL.length rn).ownBlock = some g9∨g9=W.heap.size+1)(hS:Hs w m k x W1)(hA:A<w2.heap.size)(hg:g<w2.heap.size)(hAO:A≠w.heap.size+1)(hgO:g≠w.heap.size+1)(hp:m.p<w.heap.size)(hsb:m.sb<w.heap.size)(hO:w.heap.size+1<w2.heap.size):
 (Hs w m k x w4∧Hs w m k x (w4.setCell ⟨w.heap.size+1,0,none⟩ (.slice (some ⟨g9,0,none⟩) (PL.length+1) cap9)))∧Boxed w4 (w.heap.size+1) 201 (.slice oa PL.length rn)∧(KeepsFrom w2.heap.size W (w4.setCell ⟨w.heap.size+1,0,none⟩ (.slice (some ⟨g9,0,none⟩) (PL.length+1) cap9))∧Kab A g W (w4.setCell ⟨w.heap.size+1,0,none⟩ (.slice (some ⟨g9,0,none⟩) (PL.length+1) cap9))∧Bli w w2 b (PL++[x]) (w4.setCell ⟨w.heap.size+1,0,none⟩ (.slice (some ⟨g9,0,none⟩) (PL.length+1) cap9))):=by
 have hsz:=hI.kp.size;have hnr:∀r,(Value.slice oa PL.length rn).ownBlock = some r→w2.heap.size≤r:=by
  intro r hr;rcases hown.2 with ⟨e,_⟩ | ⟨g',cap,cur,e,hb,_⟩
  ·rw [e] at hr;cases hr
  ·rw [e] at hr;injection hr with hr;rw [←hr];exact hb
 have hold:∀y,y<w2.heap.size→w4.heap[y]?=W.heap[y]? :=fun y hy=>(hgrow.block y (by omega) (fun e=>by have:=hnr y e.symm;omega)).trans (hXB.block y (by omega))
 have hold1:∀y,y<w2.heap.size→w4.heap[y]?=W1.heap[y]? :=fun y hy=>hgrow.block y (by omega) (fun e=>by have:=hnr y e.symm;omega)
 have hset:∀y,y≠w.heap.size+1→ ∀v,(w4.setCell ⟨w.heap.size+1,0,none⟩ v).heap[y]?=w4.heap[y]? :=fun y hy v=>heap_setCell_ne _ _ _ hy
 have hbx4:Boxed w4 (w.heap.size+1) 201 (.slice oa PL.length rn):=(hold _ hO).trans hbx;have hk4:Kp (fun y=>w2.heap.size≤y) W w4:=(Kp.of_new hXB).grown hgrow (fun r e=>Or.inl (hnr r e));refine ⟨⟨hS.of (hold1 _ (by omega)) (hold1 _ (by omega)) (hold1 _ (by omega)),hS.of ((hset _ (by omega) _).trans (hold1 _ (by omega))) ((hset _ (by omega) _).trans (hold1 _ (by omega))) ((hset _ (by omega) _).trans (hold1 _ (by omega)))⟩,hbx4,?_,⟨(hset A hAO _).trans (hold A hA),(hset g hgO _).trans (hold g hg)⟩,?_,_,hbx4.set _,?_⟩
 ·refine ((((KeepsOthers.refl W).from w2.heap.size).trans ⟨hXB.size,fun y o hy ho _=>by rw [hXB.block y (heap_lt ho)];exact ho⟩).trans (KeepsFrom.trans ?_ ((KeepsOthers.setCell w4 _ _).from _)));refine ⟨hgrow.size,fun y o hy ho hc=>?_⟩;rw [hgrow.block y (heap_lt ho) (fun e=>?_)]
  ·exact ho
  ·obtain ⟨C,hC⟩:=own_ty (own_below hown hXB (Nat.le_refl _)) e.symm;rw [hC] at ho;cases ho;cases hc
 ·exact (hI.kp.then hk4 (fun y hy=>Or.inr hy)).setCell (p:=⟨w.heap.size+1,0,none⟩) rfl _
 ·rw [List.length_append,List.flatMap_append];have e:[x].flatMap boC=boC x:=by simp
  rw [e];refine own_other hown4 (p:=⟨w.heap.size+1,0,none⟩) (fun e=>?_) _;obtain ⟨C,hC⟩:=own_ty hown4 e;exact ty_ne hC hbx4 (by decide) rfl
set_option maxRecDepth 100000 in
theorem blist_any (m:Bm)(b:Bk)(w:World)(hw:Bw w m)(hr:Rl m b):Calls Tryz.prog 116 #[.pointer (some ⟨m.p,0,none⟩)] w (BList w b):=by
 have N:=new2 w (.cells #[.pointer (some ⟨m.p,0,none⟩)] 63) (.cells #[.slice none 0 0] 201);have hA:=hw.new N.2.2.2;have HT:=hid (there_any m _ hA.hc);have HALL:=hid (iall_any m.ix m.Fi m.M m.c m.ln _ hA.ids);have c7:=hA.hc.c7;have hpl:=heap_lt hA.hd;have hpl0:=heap_lt hw.hd;have hsb0:=heap_lt hw.row;obtain ⟨x0,_⟩:=cells1 N.1;obtain ⟨y0,_⟩:=cells1 N.2.1;have HN:=hid N;have HA:=hid hA;have HR:=hid hr;have HW:=hid hw;clear N hA hw hr;refine callsIn_wide (n:=5).1 (callsIn_of_wp_marks Tryz.func116 rfl trivial ?_ rfl);simp only [Tryz.ntmps116,List.size_toArray,List.length_cons,List.length_nil,Nat.reduceAdd,Nat.reduceSub,Array.replicate_succ,Array.replicate_zero,List.push_toArray,List.append_toArray,List.nil_append,List.cons_append];gi_wp2_with fail
 refine ⟨trivial,CallsIn.mono (wide_in HT.out) ?_⟩;rintro e w' ⟨rfl,rfl⟩;gi_wp2_with fail
 refine ⟨trivial,CallsIn.mono (wide_in HALL.out) ?_⟩;rintro e w2 ⟨A,g,cap,L,rfl,hA1,hg1,hA2,hR2,hb2,hLs⟩;have hO2:w2.heap[w.heap.size+1]?=some (Obj.cells #[.slice none 0 0] 201 (0,0)):=Bl.blk hb2 HN.out.2.1;have hP2:w2.heap[w.heap.size]?=some (Obj.cells #[.pointer (some ⟨m.p,0,none⟩)] 63 (0,0)):=Bl.blk hb2 HN.out.1;have hB2:=HA.out.new hb2;have hsz:=HN.out.2.2.1;rw [hsz] at hA1 hg1;have hbw:Below w.heap.size w w2:=HN.out.2.2.2.trans (hb2.mono (by omega));have hLn:L.length=nT b.l:=by rw [hLs.len,HR.out.ln]
 have hnT:nT b.l≤24:=by have:=HR.out.fine.few;have:=HR.out.fine.hc;omega
 have HLS:=hid hLs;have HB2:=hid hB2;have HP2:=hid hP2;have HO2:=hid hO2;have HBW:=hid hbw;have HAG:=hid (And.intro hA1 (And.intro hg1 (And.intro (heap_lt hA2) hR2.lt)));have HLN:=hid (And.intro hLn hnT);have hst:=iall_stops (α:={s:IdxPlain.St // s∈L}) (fun s=>s.1) 4 A g cap L.attach w2 (by rw [List.length_attach];exact hA2) (by rw [List.attach_map_subtype_val];exact hR2) (by rw [List.length_attach];omega);have HST:=hid hst;clear x0 y0 c7 hpl hLs hB2 hP2 hO2 hbw hA1 hg1 hA2 hR2 hb2 hsz hLn hnT hst;gi_wp2_with fail
 refine wpIn_rangeFunc_ownG (F:=Fence.wide) rfl (by omega) (gf:=197) (lb:=#[.pointer (some ⟨A,0,none⟩)]) rfl trivial (enters_of Tryz.func197 (by kernel_rfl) rfl) HST.out Kab.trans (Kab.put HAG.out.2.2.1 HAG.out.2.2.2) (Below.refl _ _) (fun _=>rfl)
  (fun pre W=>Bli w w2 b (pre.map (fun s=>bkO b s.1)) W) (fun _ _ _=>False) ?own (fun _ _ _ _ _ hs _ _=>hs) ?start
  (fun x=>{tmps:=#[.pointer (some ⟨m.p,0,none⟩),.pointer (some ⟨w.heap.size,0,none⟩),.slice none 0 0,.pointer (some ⟨w.heap.size+1,0,none⟩),undef,.int .i64 x.1.2.2,.pointer (some ⟨m.p,0,none⟩),.bool true,.pointer (some ⟨m.p,0,none⟩),.pointer (some ⟨m.p,0,none⟩),.pointer (some ⟨m.p,7,none⟩),.pointer (some ⟨m.ix,0,none⟩),.func (.func 197) #[] #[.pointer (some ⟨A,0,none⟩)],.int .u32 x.1.2.1,.int .i64 x.1.2.2,undef,undef,undef,undef,undef,undef,undef,undef,undef,undef,undef],defers:=[]}) ?assign ?body ?done ?stop
 case own=>
  intro s W W' row hs hg hr;exact hs.turn hg hr
 case start=>exact ⟨Kp.refl _ _,_,HO2.out,⟨rfl,Or.inl ⟨rfl,rfl⟩⟩⟩
 case assign=>
  intro l x W K hK;dsimp only [siE];gi_wp2
  exact hK
 case stop=>
  rintro D c pre W _ _ h _;exact h.elim
 case body=>
  rintro l pre ⟨s,hsL⟩ W hI hlen;obtain ⟨q1,q2,q3,q4⟩:=bkO_of HR.out HLS.out hsL;refine wpIn_mono (Q:=fun e _ W'=>e = .normal ∧KeepsFrom w2.heap.size W W'∧Kab A g W W'∧Bli w w2 b (pre.map (fun s=>bkO b s.1)++[bkO b s]) W') ?_ (fun e a W' h=>by
   obtain ⟨rfl,h1,h2,h3⟩:=h;exact ⟨h1,h2,by show Bli w w2 b (List.map (fun s=>bkO b s.1) (pre++[⟨s,hsL⟩])) W';rw [List.map_append];exact h3⟩)
  have hlen2:(pre.map (fun s=>bkO b s.1)).length < 1000:=by
   rw [List.length_map];rw [List.length_attach] at hlen;have:=HLN.out;omega
  dsimp only;generalize hxe:bkO b s=x at *;generalize pre.map (fun s=>bkO b s.1)=PL at *;clear hsL hlen;obtain ⟨s1,s2,s3⟩:=s;obtain ⟨xi,xs,xu⟩:=x;dsimp only at q1 q2 q3 q4 ⊢;have HQ:=hid (And.intro q1 (And.intro q2 (And.intro q3 q4)));have HXE:=hid hxe;have hB:=HB2.out.stay hI.kp (fun y hy e=>by have:=HW.out.flt y hy;omega);have hPW:=hI.kp.blk HP2.out (by omega);obtain ⟨v,hbx,hown⟩:=hI.bx;obtain ⟨oa,rn,erv,_,_⟩:=own_form hown;subst erv;have k3:=hbx.cell;have f3:=hbx.frozen;obtain ⟨k1,_⟩:=cells1 hPW;have k8:=hB.hc.c8;obtain ⟨z0,z1,z2⟩:=hB.cells (i:=s3) (x:=(xi,xs,xu)) (by rw [HR.out.l];exact q1);have hsI:(s3:Int)<(m.s:Int):=by rw [HR.out.s];omega
  have HI:=hid hI;have HBX:=hid hbx;have HOWN:=hid hown;have HB:=hid hB;have HPW:=hid hPW;have HLE:=hid hlen2;clear hI hbx hown hB hPW q1 q2 q3 q4 hxe hlen2;gi_wp2_with fail
  refine region_in_held (fun w'=>w'.cell? ⟨w.heap.size,0,none⟩=some (.pointer (some ⟨m.p,0,none⟩))∧w'.cell? ⟨m.p,8,none⟩=some (.slice (some ⟨m.sb,0,none⟩) m.s m.s)∧w'.cell? ⟨m.sb,s3*3,none⟩=some (.int .u32 xi)∧w'.cell? ⟨m.sb,s3*3+1,none⟩=some (.int .i64 xs)∧w'.cell? ⟨m.sb,s3*3+2,none⟩=some (.int .i64 xu)) (by kernel_rfl) (no_defer (by kernel_rfl)) (by rintro ⟨a,w,h⟩;cases h.1) ⟨k1,k8,z0,z1,z2⟩ (fun hHeld=>?_);refine tkm 7 [(1,16),(2,17),(3,18),(4,19),(5,20),(6,21),(7,22)] (by kernel_rfl) (fun _ _ _ _ _ h=>h) (by assumption) ?_;iterate 7
   refine ysC (v:=?_) rfl rfl (fun w9 hS9=>?_) ?_;rotate_left
   ·try dsimp only at hS9
    go_split_ands;go_simp;try with_reducible rfl
   simp only [Act.put,List.setIfInBounds_toArray,List.set_cons_zero,List.set_cons_succ]
  refine ysN ?_;have N9:=new1 W (.cells #[.int .u32 xi,.int .i64 xs,.int .i64 xu] 160);have hX:(W.alloc (Obj.cells #[.int .u32 xi,.int .i64 xs,.int .i64 xu] 160)).drew.heap[W.heap.size]?=some (Obj.cells #[.int .u32 xi,.int .i64 xs,.int .i64 xu] 160 (0,0)):=N9.1;have hXB:Below W.heap.size W (W.alloc (Obj.cells #[.int .u32 xi,.int .i64 xs,.int .i64 xu] 160)).drew :=N9.2.2.drew;have hXS:(W.alloc (Obj.cells #[.int .u32 xi,.int .i64 xs,.int .i64 xu] 160)).drew.heap.size = W.heap.size+1:=N9.2.1;have k3':(W.alloc (Obj.cells #[.int .u32 xi,.int .i64 xs,.int .i64 xu] 160)).cell? ⟨w.heap.size+1,0,none⟩=some (.slice oa PL.length rn):=(hXB.cell (p:=⟨w.heap.size+1,0,none⟩) (by have:=HI.out.kp.size;have:=HO2.out;have:=heap_lt this;dsimp only;omega)).trans k3;have hkeep:∀W9,Below W.heap.size W W9→(W9.cell? ⟨w.heap.size,0,none⟩=some (.pointer (some ⟨m.p,0,none⟩))∧W9.cell? ⟨m.p,8,none⟩=some (.slice (some ⟨m.sb,0,none⟩) m.s m.s)∧W9.cell? ⟨m.sb,s3*3,none⟩=some (.int .u32 xi)∧W9.cell? ⟨m.sb,s3*3+1,none⟩=some (.int .i64 xs)∧W9.cell? ⟨m.sb,s3*3+2,none⟩=some (.int .i64 xu)):=by
   intro W9 hb9;have l1:=heap_lt HPW.out;have l2:=heap_lt HB.out.hd;have l3:=heap_lt HB.out.row;exact ⟨(hb9.cell (p:=⟨w.heap.size,0,none⟩) l1).trans k1,(hb9.cell (p:=⟨m.p,8,none⟩) l2).trans k8,(hb9.cell (p:=⟨m.sb,s3*3,none⟩) l3).trans z0,(hb9.cell (p:=⟨m.sb,s3*3+1,none⟩) l3).trans z1,(hb9.cell (p:=⟨m.sb,s3*3+2,none⟩) l3).trans z2⟩
  have HX:=hid hX;have HXB:=hid hXB;have HXS:=hid hXS;have HKEEP:=hid hkeep;have HROW:=hid (own_below HOWN.out hXB (Nat.le_refl _));obtain ⟨i0,hi0,hz0,hz1,hz3⟩:=info_parts info160;have HI0:=hid hi0;have HZ3:=hid hz3;clear N9 hX hXB hXS hkeep hi0 hz3;refine rd2 0 8 (by kernel_rfl) rfl rfl (fun K9 hK9=>?_) (fun K9 hK9=>?_)
  ·go_simp;refine hK9.out _ _ hHeld (fun hHeld=>?_);clear hK9 K9;refine rd1 8 (by kernel_rfl) rfl (fun K9 hK9=>?_);go_simp;refine hK9.out _ _ (HKEEP.out _ HXB.out) (fun hHeld=>?_);clear hK9 K9;refine rd1 9 (by kernel_rfl) rfl (fun K9 hK9=>?_);refine step_append_lies _ (by rfl) _ _ 201 (by rfl) w2.heap.size 160 i0 (.agg #[.int .u32 0,.int .i64 0,.int .i64 0]) 3 24 Tryz.underlying201 HI0.out hz0 hz1 HZ3.out (by rfl) (by decide) (.slice oa PL.length rn) PL.length (PL.flatMap boC) (by rfl) HROW.out ⟨W.heap.size,0,none⟩ 1 1 [.int .u32 xi,.int .i64 xs,.int .i64 xu] (by rfl) (by rfl) (World.news_of_block HX.out) (by simp [Value.oneCell']) (by decide) (by have:=HLE.out;unfold maxLen;omega) (by have:=HLE.out;omega) (by have:=HI.out.kp.size;have:=HXS.out;omega) (W.heap.size+1) HXS.out ?_;intro g9 cap9 w4 hown hgrow hat hlt;obtain ⟨hS4,hbx4,hfin⟩:=blist_tail (x:=(xi,xs,xu)) (k:=s3) (m:=m) HI.out HBX.out HOWN.out HXB.out HXS.out hown hgrow hat (HKEEP.out _ HXB.out) HAG.out.2.2.1 HAG.out.2.2.2 (by have:=HAG.out.1;omega) (by have:=HAG.out.2.1;omega) hpl0 hsb0 (heap_lt HO2.out);have c4:=hbx4.cell;have f4:=hbx4.frozen;have HFIN:=hid hfin;refine hK9.out _ _ hS4.1 (fun hHeld=>?_);have HS5:=hid hS4.2;clear hK9 K9 hown hgrow hat hlt hbx4 hfin hS4;refine rd1 10 (by kernel_rfl) rfl (fun K9 hK9=>?_);go_simp;refine hK9.out _ _ HS5.out (fun hHeld=>?_);clear hK9 K9;refine wpAnyH_done (by kernel_rfl) ?_ _;exact ⟨rfl,HFIN.out⟩
  ·go_simp;refine hK9.out _ _ (HKEEP.out _ HXB.out) (fun hHeld=>?_);clear hK9 K9;refine rd1 0 (by kernel_rfl) rfl (fun K9 hK9=>?_);go_simp;refine hK9.out _ _ hHeld (fun hHeld=>?_);clear hK9 K9;refine rd1 9 (by kernel_rfl) rfl (fun K9 hK9=>?_);refine step_append_lies _ (by rfl) _ _ 201 (by rfl) w2.heap.size 160 i0 (.agg #[.int .u32 0,.int .i64 0,.int .i64 0]) 3 24 Tryz.underlying201 HI0.out hz0 hz1 HZ3.out (by rfl) (by decide) (.slice oa PL.length rn) PL.length (PL.flatMap boC) (by rfl) HROW.out ⟨W.heap.size,0,none⟩ 1 1 [.int .u32 xi,.int .i64 xs,.int .i64 xu] (by rfl) (by rfl) (World.news_of_block HX.out) (by simp [Value.oneCell']) (by decide) (by have:=HLE.out;unfold maxLen;omega) (by have:=HLE.out;omega) (by have:=HI.out.kp.size;have:=HXS.out;omega) (W.heap.size+1) HXS.out ?_;intro g9 cap9 w4 hown hgrow hat hlt;obtain ⟨hS4,hbx4,hfin⟩:=blist_tail (x:=(xi,xs,xu)) (k:=s3) (m:=m) HI.out HBX.out HOWN.out HXB.out HXS.out hown hgrow hat (HKEEP.out _ HXB.out) HAG.out.2.2.1 HAG.out.2.2.2 (by have:=HAG.out.1;omega) (by have:=HAG.out.2.1;omega) hpl0 hsb0 (heap_lt HO2.out);have c4:=hbx4.cell;have f4:=hbx4.frozen;have HFIN:=hid hfin;refine hK9.out _ _ hS4.1 (fun hHeld=>?_);have HS5:=hid hS4.2;clear hK9 K9 hown hgrow hat hlt hbx4 hfin hS4;refine rd1 10 (by kernel_rfl) rfl (fun K9 hK9=>?_);go_simp;refine hK9.out _ _ HS5.out (fun hHeld=>?_);clear hK9 K9;refine wpAnyH_done (by kernel_rfl) ?_ _;exact ⟨rfl,HFIN.out⟩
 case done=>
  rintro D xs W hD rfl hI hK;have hPL:L.attach.map (fun s=>bkO b s.1)=listB b:=by
   rw [←bkO_list HR.out HLS.out];have e:L.attach.map (fun s=>bkO b s.1)=(L.attach.map (fun s=>s.1)).map (bkO b):=by rw [List.map_map];rfl
   rw [e,List.attach_map_subtype_val]
  rw [hPL] at hI;obtain ⟨v,hbx,hown⟩:=hI.bx;obtain ⟨oa,rn,erv,_,_⟩:=own_form hown;subst erv;have c3:=hbx.cell;have hnl:(listB b).length = nT b.l:=listL_len _;rw [hnl] at hown c3;have hB:Below w.heap.size w W:=HBW.out.trans (hI.kp.below HBW.out.size (fun y e=>by have e2:y=w.heap.size+1:=e;omega));have hown2:=own_mono (ownsRow_putObj hown (.deferred none) hK rfl) (Nat.le_of_lt (Nat.lt_of_le_of_lt (Nat.le_add_right _ 1) (heap_lt HO2.out)));have hB2:Below w.heap.size w (W.putObj D (.deferred none)):=hB.trans (belowK_b (w:=w) (Nat.le_refl _) W D _ _ (by have:=HBW.out.size;omega) hK rfl rfl);have HOW:=hid hown2;have HB9:=hid hB2;clear hI hbx hown hB hown2 hB2 hPL hnl;gi_wp2
  refine ⟨by simp,.inl ⟨_,_,rfl,run_takeDeferred hK,?_⟩⟩;refine ⟨_,results_tmp rfl _ _ _,?_⟩;exact ⟨.slice oa (nT b.l) rn,rfl,HOW.out,HB9.out⟩
end
end Go.Proofs.YtdjiopacieadpaaGreatDoor
