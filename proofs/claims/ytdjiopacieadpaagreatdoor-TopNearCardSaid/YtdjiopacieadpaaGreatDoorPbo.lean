/- TopNear: part Pbo: RcE RcF RcG. -/
import Derived.Test.YtdjiopacieadpaaGreatDoorPbn
set_option linter.unusedVariables false
set_option linter.unusedSimpArgs false
set_option maxRecDepth 8000
set_option maxHeartbeats 8000000
namespace Go.Proofs.YtdjiopacieadpaaGreatDoor
section
open Go.RowKit BookPlain FlatPlain
def SwA (w:World)(F:Nat→Prop)(p z n:Nat)(D:List Nat)(C:Nat)(w':World):Prop:= ∃F' c',Step F F' w w'∧Pw w' p z n D F' c' 0∧c'≤C
def SwB (w:World)(F:Nat→Prop)(p z n:Nat)(D:List Nat)(C A:Nat)(w':World):Prop:= ∃F' c',Step F F' w w'∧Pw w' p z n D F' c' 0∧c'≤C∧ ¬F' A
theorem SwA.made {w w' w2:World}{F:Nat→Prop}{p z n C A:Nat}{D:List Nat}(h:SwA w F p z n D C w')(hA:w'.heap.size=A)(hb:Below w'.heap.size w' w2):SwB w F p z n D C A w2:=by
 obtain ⟨F',c',h1,h2,h3⟩:=h;exact ⟨F',c',h1.below hb,h2.new hb,h3,fun e=>by have:=h2.flt A e;omega⟩
theorem SwB.set {w w' w2:World}{F:Nat→Prop}{p z n C A:Nat}{D:List Nat}(h:SwB w F p z n D C A w')(hk:Kp (fun x=>x=A) w' w2)(hA:w.heap.size≤A):SwB w F p z n D C A w2:=by
 obtain ⟨F',c',h1,h2,h3,h4⟩:=h;refine ⟨F',c',⟨h1.kp.then hk (fun x e=>Or.inr (by have e2:x=A:=e;omega)),h1.sub,fun x hx=>by have:=h1.lt x hx;have:=hk.size;omega⟩,h2.stay hk (fun x hx e=>h4 (by have e2:x=A:=e;rw [←e2];exact hx)),h3,h4⟩
theorem results_tct {P:Program}{fn:Func}{p u v:Tmp}{ty:TypeId}(h:fn.results=#[.tmp u,.cell p ty,.tmp v])(tmps:Array Value)(w:World)(g:Nat)(t:TypeId)(cs:Array Value)(fr:Nat×Nat)(d:TypeDesc)(hp:tmps.getD p undef = .pointer (some ⟨g,0,none⟩))(hg:w.heap[g]?=some (.cells cs t fr))(hu:P.underlying ty=some d)(hd:(match d with | .struct _ | .array _ _=>true | _=>false)=true)(hi:(P.info? ty).map (·.size)=some cs.size):
 (results fn tmps).run P w = .ok (.tuple #[tmps.getD u undef,.agg cs,tmps.getD v undef]) w:=by
 have hp':tmps[p]?.getD undef = .pointer (some ⟨g,0,none⟩):=by simpa using hp
 simp [results,h,hp',asAddr,run_loadVar_row w g t ty cs fr d hg hu hd hi]
theorem open_dsk {D:List Nat}{z k n s c g LL G C C':Nat}{oa ob:Option SlotPlain.Sl}{b1:Bk}(h:Dsk D z k s c g oa ob G C)(hz:64≤z)(hD:D.length=n*z)(hk:2≤k)(hn:k+k≤n)(hb:(imgF b1).length ≤k*z-z)(hs:Sound b1)(hsh:b1.s=s∧b1.c=c∧b1.g=g)(hG:G≤100000000)(hL:LL≤C')(hC:C≤C')(hL2:LL≤1000000000):
 Dsk (saveD D z (nextF k oa ob) (SlotPlain.gen oa ob+1) LL (imgF b1)) z k s c g (SlotPlain.saved oa ob LL (imgF b1)).1 (SlotPlain.saved oa ob LL (imgF b1)).2 (G+1) C':=by
 have hg:=h.gen.1;have hi:=img_fits hs;obtain ⟨s1,s2⟩:=saved_slots (c:=LL) (body:=imgF b1) hz hD hk hn hb (by omega) (by omega) (by omega) h.sa h.sb;have key:∀x:SlotPlain.Sl,x=(SlotPlain.gen oa ob+1,LL,imgF b1)→(∃b,Sound b∧b.s=s∧b.c=c∧b.g=g∧x.2.2=imgF b)∧x.1≤G+1∧x.2.1≤C':=by
  rintro x rfl;exact ⟨⟨b1,hs,hsh.1,hsh.2.1,hsh.2.2,rfl⟩,by show SlotPlain.gen oa ob+1≤_;omega,hL⟩
 refine ⟨s1,s2,?_,?_⟩
 ·intro x hx;unfold SlotPlain.saved at hx;split at hx
  ·injection hx with hx;exact key x hx.symm
  ·have:=h.ia x hx;exact ⟨this.1,by omega,by omega⟩
 ·intro x hx;unfold SlotPlain.saved at hx;split at hx
  ·have:=h.ib x hx;exact ⟨this.1,by omega,by omega⟩
  ·injection hx with hx;exact key x hx.symm
def openE (z k:Nat)(b1:Bk)(LL:Nat)(D:List Nat)(oa ob:Option SlotPlain.Sl):Egs:=⟨b1,⟨0,LL,LL,SlotPlain.gen oa ob+1,[]⟩,[],saveD D z (nextF k oa ob) (SlotPlain.gen oa ob+1) LL (imgF b1),(SlotPlain.saved oa ob LL (imgF b1)).1,(SlotPlain.saved oa ob LL (imgF b1)).2⟩
def rcM (z n k g0 c0:Nat)(b0:Bk)(D:List Nat):Nat:=(runF b0 (bodiesF z n k g0 c0 D)).2
def rcB (z n k g0 c0:Nat)(b0:Bk)(D:List Nat):Bk:=(runF b0 (bodiesF z n k g0 c0 D)).1
def ROpn (w:World)(p z n k:Nat)(D:List Nat)(F:Nat→Prop)(c g0 c0 t:Nat)(b0:Bk)(oa ob:Option SlotPlain.Sl)(e:Ending)(w':World):Prop:=
 ∃P m,e = .returned (.tuple #[.pointer (some ⟨P.e,0,none⟩),.agg #[.int .u64 g0,.int .u64 c0,.int .i64 (rcM z n k g0 c0 b0 D:Int)],.int .i64 0])∧P.p=p∧P.z=z∧P.n=n∧P.k=k∧Eg w' P (openE z k (rcB z n k g0 c0 b0 D) (c0+rcM z n k g0 c0 b0 D) D oa ob) m t∧Step F (EF P m) w w'∧m.c≤c+(n+2*k+26)
theorem ropen_any (p z n k:Nat)(D:List Nat)(F:Nat→Prop)(c g0 c0 t:Nat)(b0:Bk)(oa ob:Option SlotPlain.Sl)(w:World)(HBD:Hid (∀W',Below w.heap.size w W'→Calls Tryz.prog 22 #[.pointer (some ⟨p,0,none⟩),.agg #[.int .i64 b0.s,.int .i64 b0.c,.int .i64 b0.g]] W' (RBld W' p z n k D F c g0 c0 b0)))(hp:Pw w p z n D F c 0)(hk:2≤k)(hkn:2*k+1≤n)(hd:Dsk D z k b0.s b0.c b0.g oa ob (99+t) (10000*t+98000))(hg0:g0=SlotPlain.gen oa ob)(hc0:c0=SlotPlain.cov oa ob)(hs:Sound b0)(hc:c+1000≤100000*t+100000000)(ht:t≤400)(hgl:Glb w)(hF1:∀x,F x→1<x)(hnz:(n-2*k)*z≤25000)(hfi:20+14*min b0.s b0.c≤k*z-z):
 Calls Tryz.prog 11 #[.pointer (some ⟨p,0,none⟩),.agg #[.int .i64 b0.s,.int .i64 b0.c,.int .i64 b0.g]] w (ROpn w p z n k D F c g0 c0 t b0 oa ob):=by
 have hz:=hp.hz;have hn96:=hp.n96;have HF:=hid hp.flt;have N:=new2 w (.cells #[.int .i64 b0.s,.int .i64 b0.c,.int .i64 b0.g] 23) (.cells #[.int .u64 0,.int .u64 0,.int .i64 0] 41);obtain ⟨W0,hW0⟩:∃W,(w.alloc (.cells #[.int .i64 b0.s,.int .i64 b0.c,.int .i64 b0.g] 23)).alloc (.cells #[.int .u64 0,.int .u64 0,.int .i64 0] 41)=W:=⟨_,rfl⟩;rw [hW0] at N;have HN:=hid N;have HGL:=hid hgl;have HF1:=hid hF1;have HSO:=hid hs;obtain ⟨q0,_,q1,_,q2,_⟩:=cells3 N.1;have HALL:=hid (And.intro hk (And.intro hkn (And.intro hg0 (And.intro hc0 (And.intro hc (And.intro ht (And.intro hnz hfi)))))));have HD:=hid hd;have HZ:=hid (And.intro hz hn96);clear hp N hgl hF1 hs hk hkn hg0 hc0 hc ht hnz hfi hd hz hn96;go_enter Tryz.func11,Tryz.ntmps11;go_wp2_with fail;refine (HBD.out _ HN.out.2.2.2).mono ?_;rintro e w1 ⟨sl,rl,ra,rb,pb,Fb,j,rfl,hr1,hbk1,hFb1,hj⟩;obtain ⟨RB,hRB⟩:∃x,runF b0 (bodiesF z n k g0 c0 D)=x:=⟨_,rfl⟩;obtain ⟨b1,m0⟩:=RB;have hsz1:(bodiesF z n k g0 c0 D).length ≤1136:=by
  unfold bodiesF;rw [List.length_map];have h1:=scanF_len g0 ((n-2*k)*z+1) (cut D (2*k*z) ((n-2*k)*z)) 0 c0;have h2:(cut D (2*k*z) ((n-2*k)*z)).length ≤(n-2*k)*z:=by unfold cut;rw [List.length_take];omega
  have:=HALL.out.2.2.2.2.2.2.1;omega
 have hm0:m0≤1136:=by
  have:=runF_le (bodiesF z n k g0 c0 D) b0;rw [hRB] at this;exact Nat.le_trans this hsz1
 have hsb:Sound b1:=by have:=runF_sound (bodiesF z n k g0 c0 D) b0 HSO.out;rw [hRB] at this;exact this
 have hsh:b1.s=b0.s∧b1.c=b0.c∧b1.g=b0.g:=by have:=runF_shape (bodiesF z n k g0 c0 D) b0;rw [hRB] at this;exact this
 have hrcB:rcB z n k g0 c0 b0 D=b1:=by unfold rcB;rw [hRB]
 have hrcM:rcM z n k g0 c0 b0 D=m0:=by unfold rcM;rw [hRB]
 rw [hRB] at hbk1;rw [hRB];dsimp only at hbk1 ⊢;unfold bltV;have hge:=HALL.out;have hdg:=HD.out.gen;obtain ⟨B,hBB⟩:∃B,w1.heap.size=B:=⟨_,rfl⟩;have N2:=new1 w1 (.cells #[.pointer (some ⟨sl,0,none⟩),.pointer (some ⟨rl,0,none⟩),.int .u64 g0,.int .u64 c0,.int .i64 m0,.pointer (some ⟨pb,0,none⟩)] 82);obtain ⟨W2,hW2⟩:∃W,w1.alloc (.cells #[.pointer (some ⟨sl,0,none⟩),.pointer (some ⟨rl,0,none⟩),.int .u64 g0,.int .u64 c0,.int .i64 m0,.pointer (some ⟨pb,0,none⟩)] 82)=W:=⟨_,rfl⟩;rw [hW2] at N2;have hr2:=hr1.new N2.2.2;have hbk2:=hbk1.new N2.2.2;have hz1:=hr1.kp.blk HN.out.2.1 (fun e=>by have:=HF.out _ e;omega);have hz2:=Bl.blk N2.2.2 hz1;have hBw:w.heap.size+2≤B:=by have:=heap_lt hr1.ss;have:=hr1.ge.2.2.2;have:=HN.out.2.2.1;omega
 rw [hBB] at N2;have HIP:=hid (iput_any pb Fb (48+2*(bodiesF z n k g0 c0 D).length) b1 W2 hbk2 hsb);have HR2:=hid hr2;have HBK2:=hid hbk2;have HZ2:=hid hz2;have HB2:=hid N2.1;have HBW:=hid hBw;have HFB:=hid hFb1;have HJ:=hid hj;have HM:=hid (And.intro hsz1 (And.intro hm0 (And.intro hsb (And.intro hsh (And.intro hrcB hrcM)))));have HW2S:Hid (W2.heap.size=B+1):=hid N2.2.1;have HFBL:=hid hbk2.flt;obtain ⟨b0',_,b1',_,b2',_,b3',_,b4',_,b5',_⟩:=cells6 N2.1;clear q0 q1 q2 hr1 hbk1 hFb1 hj hRB hsz1 hm0 hsb hsh hrcB hrcM hr2 hbk2 hz1 hz2 hBw N2 hge hdg;go_wp2_with fail;refine HIP.out.mono ?_;rintro e w3 ⟨v3,rfl,ho3,hb3⟩;obtain ⟨oa3,rn3,rfl,_,_⟩:=own_form ho3;have hr3:=HR2.out.new hb3;have hB3:=Bl.blk hb3 HB2.out;have hgl3:Glb w3:=(HGL.out.new HN.out.2.2.2).kp hr3.kp HF1.out;have hal:=HALL.out;have hdg:=HD.out.gen;have hif:=img_fits HM.out.2.2.1;have hw0:W0.heap.size=w.heap.size+2:=HN.out.2.2.1;have hnF:∀x,w.heap.size≤x→ ¬F x:=fun x hx e=>by have:=HF.out x e;omega
 obtain ⟨LL,hLL⟩:∃x,c0+m0=x:=⟨_,rfl⟩;have HSV:=hid (fun W' (hb:Below w3.heap.size w3 W')=>ssave_any sl ra rb p z k n D F (c+j) oa ob _ (imgF b1) LL W' (Bl.blk hb hr3.ss) (hr3.gra.new hb) (hr3.grb.new hb) (hr3.pw.new hb) HD.out.sa HD.out.sb (hnF _ (by have:=hr3.ge.1;omega)) (hnF _ (by have:=hr3.ge.2.1;omega)) (hnF _ (by have:=hr3.ge.2.2.2;omega)) (by have:=HJ.out;have:=HZ.out.2;omega) (by omega) hal.1 (hgl3.new hb).tab HF1.out (Sl_below (Sl_of_own ho3) hb (Nat.le_refl _)) (fun x hx e=>by have:=(ho3.lt x hx).1;have:=HF.out x e;have:=HW2S.out;have:=HBW.out;omega) hif.1 (by have:=HM.out.2.2.2.1;rw [this.1,this.2.1] at hif;omega) (img_bytes _) (by omega) (by have:=HM.out.2.1;omega));have HCC:Hid (c0<1000000000∧m0<1000000000):=hid (by have:=HM.out.2.1;omega);obtain ⟨G,hG⟩:∃G,SlotPlain.gen oa ob+1=G:=⟨_,rfl⟩;obtain ⟨N9,hN9⟩:∃G,(imgF b1).length = G:=⟨_,rfl⟩;obtain ⟨C9,hC9⟩:∃G,crcF (imgF b1)=G:=⟨_,rfl⟩;have HGE:=hid hG;have HNL:=hid hN9;have HCL:=hid hC9;have HLE:=hid hLL;have HFL:=hid HF.out;have HFL3:Hid (∀x,F x→x<w3.heap.size):=hid (fun x hx=>by have:=HF.out x hx;have:=heap_lt hB3;have:=HBW.out;omega);have HBL:Hid (w.heap.size≤B∧B<w3.heap.size):=hid (by have:=heap_lt hB3;have:=HBW.out;omega);have HCB:Hid (c+j+3*k+17≤c+(n+2*k+26)):=hid (by have:=HJ.out;omega);have HR3:=hid hr3;have HB3:=hid hB3;have HBK3:=hid (HBK2.out.new hb3);have HZ3:=hid (Bl.blk hb3 HZ2.out);rw [hN9] at HSV ⊢;clear b0' b1' b2' b3' b4' b5' ho3 hb3 hr3 hB3 hgl3 hal hdg hif hw0 hG hN9 hC9 hLL;go_wp2_with fail;go_cut [8,11] (fun s8 s11 wc=> ∃A,s8 = .int .i64 0∧s11 = .pointer (some ⟨A,0,none⟩)∧wc.heap[A]?=some (.cells #[.int .u64 G,.int .u64 LL,.int .i64 N9,.int .u32 C9] 88 (0,0))∧w3.heap.size≤A∧wc.heap[B]?=some (.cells #[.pointer (some ⟨sl,0,none⟩),.pointer (some ⟨rl,0,none⟩),.int .u64 g0,.int .u64 c0,.int .i64 m0,.pointer (some ⟨pb,0,none⟩)] 82 (0,0))∧SwB w3 F p z n (saveD D z (nextF k oa ob) (SlotPlain.gen oa ob+1) LL (imgF b1)) (c+(n+2*k+26)) A wc)
 case first=>
  refine wp_region_held_drew (S:=fun w'=>w'.heap[B]?=some (.cells #[.pointer (some ⟨sl,0,none⟩),.pointer (some ⟨rl,0,none⟩),.int .u64 g0,.int .u64 c0,.int .i64 m0,.pointer (some ⟨pb,0,none⟩)] 82 (0,0))) (by kernel_rfl) (HB3.out) (fun hHeld=>?_);have hB:Below w3.heap.size w3 w3.drew:=(Below.refl _ _).drew;have hsz:w3.heap.size≤w3.drew.heap.size:=Nat.le_refl _;generalize w3.drew=X at *;refine tkm 4 [(0,33),(1,34),(2,35),(3,36)] (by kernel_rfl) (fun _ _ _ _ _ h=>h) (by assumption) ?_;iterate 4
   refine ysC (v:=?_) rfl rfl (fun w9 hS9=>?_) ?_;rotate_left
   ·obtain ⟨b0',_,b1',_,b2',_,b3',_,b4',_,b5',_⟩:=cells6 hS9;go_simp;try with_reducible rfl
   simp only [Act.put,List.setIfInBounds_toArray,List.set_cons_zero,List.set_cons_succ]
  refine ysN ?_;refine absorb2 (F:=fun X A=>(X.heap[A]?=some (.cells #[.int .u64 0,.int .u64 0,.int .i64 0,.int .u32 0] 88 (0,0))∧w3.heap.size≤A)∧SwB w3 F p z n (saveD D z (nextF k oa ob) (SlotPlain.gen oa ob+1) LL (imgF b1)) (c+(n+2*k+26)) A X∧X.heap[B]?=some (.cells #[.pointer (some ⟨sl,0,none⟩),.pointer (some ⟨rl,0,none⟩),.int .u64 g0,.int .u64 c0,.int .i64 m0,.pointer (some ⟨pb,0,none⟩)] 82 (0,0))) ?L (fun LEAF=>?leafs) ?leaf;case leafs=>
   refine rd2 4 9 (by kernel_rfl) rfl rfl (fun K9 hK9=>?_) (fun K9 hK9=>?_)
   ·go_simp;refine (elast_any B sl rl c0 m0 (g0:Int) (.pointer (some ⟨pb,0,none⟩)) _ hHeld HCC.out.1 HCC.out.2).mono ?_;rintro e X ⟨q9,rfl,hYq⟩;have hb9:=below_of_drewN hYq;clear hYq;have hs2:=Bl.blk hb9 hHeld;replace hsz:=Nat.le_trans hsz hb9.size;replace hB:=hB.trans (hb9.mono hB.size);rw [HLE.out];go_simp;refine hK9.out _ _ (hs2) (fun hHeld=>?_);clear hK9 K9;clear hs2 hb9;refine rd2 5 9 (by kernel_rfl) rfl rfl (fun K9 hK9=>?_) (fun K9 hK9=>?_)
    ·go_simp;refine (HSV.out _ hB).mono ?_;rintro e X ⟨F',c',rfl,hst,hpw,hcb⟩;have hs2:=hst.kp.blk hHeld (fun e=>by have:=HFL.out _ e;have:=HBL.out;omega);replace hsz:=Nat.le_trans hsz hst.kp.size;have hV:SwA w3 F p z n (saveD D z (nextF k oa ob) (SlotPlain.gen oa ob+1) LL (imgF b1)) (c+(n+2*k+26)) X:=⟨F',c',(Step.new hB HFL3.out).trans hst,hpw,by have:=HCB.out;omega⟩;rw [HGE.out,HNL.out,HCL.out];unfold hdV;go_simp;refine hK9.out _ _ (hs2) (fun hHeld=>?_);clear hK9 K9;clear hs2 hst hpw hcb hB;refine tkm 3 [(6,32),(7,39),(8,40)] (by kernel_rfl) (fun _ _ _ _ _ h=>h) (by assumption) ?_;iterate 3
      refine ysC (v:=?_) rfl rfl (fun w9 hS9=>?_) ?_;rotate_left
      ·obtain ⟨b0',_,b1',_,b2',_,b3',_,b4',_,b5',_⟩:=cells6 hS9;go_simp;try with_reducible rfl
      simp only [Act.put,List.setIfInBounds_toArray,List.set_cons_zero,List.set_cons_succ]
     refine ysN ?_;refine rd1 9 (by kernel_rfl) rfl (fun K9 hK9=>?_);have N9':=new1 X (.cells #[.int .u64 0,.int .u64 0,.int .i64 0,.int .u32 0] 88);obtain ⟨A,eA⟩:∃A,X.heap.size=A:=⟨_,rfl⟩;have hAl9:w3.heap.size≤A:=by omega
     obtain ⟨X,hY9⟩:∃W,X.alloc (.cells #[.int .u64 0,.int .u64 0,.int .i64 0,.int .u32 0] 88)=W:=⟨_,rfl⟩;rw [hY9] at N9';have hb9:=N9'.2.2;have hs2:=Bl.blk hb9 hHeld;replace hsz:=Nat.le_trans hsz hb9.size;replace hV:=hV.made eA hb9;have hA:=And.intro N9'.1 hAl9;rw [eA] at hA;clear N9';go_simp;refine hK9.out _ _ (hs2) (fun hHeld=>?_);clear hK9 K9;clear hs2 hY9 hb9;exact LEAF X A ⟨hA,hV,hHeld⟩
    ·have N9':=new1 X (.cells #[.int .u64 0,.int .u64 0,.int .i64 0,.int .u32 0] 88);obtain ⟨A,eA⟩:∃A,X.heap.size=A:=⟨_,rfl⟩;have hAl9:w3.heap.size≤A:=by omega
     obtain ⟨X,hY9⟩:∃W,X.alloc (.cells #[.int .u64 0,.int .u64 0,.int .i64 0,.int .u32 0] 88)=W:=⟨_,rfl⟩;rw [hY9] at N9';have hb9:=N9'.2.2;have hs2:=Bl.blk hb9 hHeld;replace hsz:=Nat.le_trans hsz hb9.size;replace hB:=hB.trans (hb9.mono hB.size);have hA:=And.intro N9'.1 hAl9;rw [eA] at hA;clear N9';go_simp;refine hK9.out _ _ (hs2) (fun hHeld=>?_);clear hK9 K9;clear hs2 hY9 hb9;refine rd1 5 (by kernel_rfl) rfl (fun K9 hK9=>?_);go_simp;have hAlt:=heap_lt hA.1;refine (HSV.out _ hB).mono ?_;rintro e X ⟨F',c',rfl,hst,hpw,hcb⟩;have hs2:=hst.kp.blk hHeld (fun e=>by have:=HFL.out _ e;have:=HBL.out;omega);replace hsz:=Nat.le_trans hsz hst.kp.size;replace hA:=And.intro (hst.kp.blk hA.1 (fun e=>by have:=HFL3.out _ e;have:=hA.2;omega)) hA.2;have hV:SwB w3 F p z n (saveD D z (nextF k oa ob) (SlotPlain.gen oa ob+1) LL (imgF b1)) (c+(n+2*k+26)) A X:=⟨F',c',(Step.new hB HFL3.out).trans hst,hpw,by have:=HCB.out;omega,fun e=>by
      rcases hst.sub A e with e2 | e2
      ·have:=HFL3.out _ e2;have:=hA.2;omega
      ·omega⟩
     clear hAlt;rw [HGE.out,HNL.out,HCL.out];unfold hdV;go_simp;refine hK9.out _ _ (hs2) (fun hHeld=>?_);clear hK9 K9;clear hs2 hst hpw hcb hB;refine tkm 3 [(6,32),(7,39),(8,40)] (by kernel_rfl) (fun _ _ _ _ _ h=>h) (by assumption) ?_;iterate 3
      refine ysC (v:=?_) rfl rfl (fun w9 hS9=>?_) ?_;rotate_left
      ·obtain ⟨b0',_,b1',_,b2',_,b3',_,b4',_,b5',_⟩:=cells6 hS9;go_simp;try with_reducible rfl
      simp only [Act.put,List.setIfInBounds_toArray,List.set_cons_zero,List.set_cons_succ]
     refine ysN ?_;exact LEAF X A ⟨hA,hV,hHeld⟩
   ·have N9':=new1 X (.cells #[.int .u64 0,.int .u64 0,.int .i64 0,.int .u32 0] 88);obtain ⟨A,eA⟩:∃A,X.heap.size=A:=⟨_,rfl⟩;have hAl9:w3.heap.size≤A:=by omega
    obtain ⟨X,hY9⟩:∃W,X.alloc (.cells #[.int .u64 0,.int .u64 0,.int .i64 0,.int .u32 0] 88)=W:=⟨_,rfl⟩;rw [hY9] at N9';have hb9:=N9'.2.2;have hs2:=Bl.blk hb9 hHeld;replace hsz:=Nat.le_trans hsz hb9.size;replace hB:=hB.trans (hb9.mono hB.size);have hA:=And.intro N9'.1 hAl9;rw [eA] at hA;clear N9';go_simp;refine hK9.out _ _ (hs2) (fun hHeld=>?_);clear hK9 K9;clear hs2 hY9 hb9;refine rd1 4 (by kernel_rfl) rfl (fun K9 hK9=>?_);go_simp;refine (elast_any B sl rl c0 m0 (g0:Int) (.pointer (some ⟨pb,0,none⟩)) _ hHeld HCC.out.1 HCC.out.2).mono ?_;rintro e X ⟨q9,rfl,hYq⟩;have hb9:=below_of_drewN hYq;clear hYq;have hs2:=Bl.blk hb9 hHeld;replace hsz:=Nat.le_trans hsz hb9.size;replace hB:=hB.trans (hb9.mono hB.size);replace hA:=And.intro (Bl.blk hb9 hA.1) hA.2;rw [HLE.out];go_simp;refine hK9.out _ _ (hs2) (fun hHeld=>?_);clear hK9 K9;clear hs2 hb9;refine rd1 5 (by kernel_rfl) rfl (fun K9 hK9=>?_);go_simp;have hAlt:=heap_lt hA.1;refine (HSV.out _ hB).mono ?_;rintro e X ⟨F',c',rfl,hst,hpw,hcb⟩;have hs2:=hst.kp.blk hHeld (fun e=>by have:=HFL.out _ e;have:=HBL.out;omega);replace hsz:=Nat.le_trans hsz hst.kp.size;replace hA:=And.intro (hst.kp.blk hA.1 (fun e=>by have:=HFL3.out _ e;have:=hA.2;omega)) hA.2;have hV:SwB w3 F p z n (saveD D z (nextF k oa ob) (SlotPlain.gen oa ob+1) LL (imgF b1)) (c+(n+2*k+26)) A X:=⟨F',c',(Step.new hB HFL3.out).trans hst,hpw,by have:=HCB.out;omega,fun e=>by
     rcases hst.sub A e with e2 | e2
     ·have:=HFL3.out _ e2;have:=hA.2;omega
     ·omega⟩
    clear hAlt;rw [HGE.out,HNL.out,HCL.out];unfold hdV;go_simp;refine hK9.out _ _ (hs2) (fun hHeld=>?_);clear hK9 K9;clear hs2 hst hpw hcb hB;refine tkm 3 [(6,32),(7,39),(8,40)] (by kernel_rfl) (fun _ _ _ _ _ h=>h) (by assumption) ?_;iterate 3
     refine ysC (v:=?_) rfl rfl (fun w9 hS9=>?_) ?_;rotate_left
     ·obtain ⟨b0',_,b1',_,b2',_,b3',_,b4',_,b5',_⟩:=cells6 hS9;go_simp;try with_reducible rfl
     simp only [Act.put,List.setIfInBounds_toArray,List.set_cons_zero,List.set_cons_succ]
    refine ysN ?_;exact LEAF X A ⟨hA,hV,hHeld⟩
  case leaf=>
   rintro X A ⟨hA,hV,hHeld⟩;refine rd1 10 (by kernel_rfl) rfl (fun K9 hK9=>?_);obtain ⟨z0,f0,z1,f1,z2,f2,z3,f3⟩:=cells4 hA.1;go_simp;have k7:=rset4_kp (F:=fun x=>x=A) (Kp.refl _ X) rfl (.int .u64 G) (.int .u64 LL) (.int .i64 N9) (.int .u32 C9);have hr6:=rset4 (x0:= .int .u64 G) (x1:= .int .u64 LL) (x2:= .int .i64 N9) (x3:= .int .u32 C9) hA.1;have hAl:=hA.2;have hs2:=k7.blk hHeld (fun e=>by have h9:B=A:=e;have:=HBL.out;omega);have hV6:=hV.set k7 hAl;generalize ((((X.setCell ⟨A,0,none⟩ (.int .u64 G)).setCell ⟨A,1,none⟩ (.int .u64 LL)).setCell ⟨A,2,none⟩ (.int .i64 N9)).setCell ⟨A,3,none⟩ (.int .u32 C9))=Y at *;refine hK9.out _ _ (hs2) (fun hHeld=>?_);clear hK9 K9;clear z0 f0 z1 f1 z2 f2 z3 f3 k7;refine tkm 1 [(11,8)] (by kernel_rfl) (fun _ _ _ _ _ h=>h) (by assumption) ?_;refine ysC (v:=?_) rfl rfl (fun w9 hS9=>?_) ?_;rotate_left
   ·obtain ⟨b0',_,b1',_,b2',_,b3',_,b4',_,b5',_⟩:=cells6 hS9;go_simp;try with_reducible rfl
   simp only [Act.put,List.setIfInBounds_toArray,List.set_cons_zero,List.set_cons_succ];refine ysN ?_;refine wpAnyH_done (by kernel_rfl) ?_ _;go_wp2_with fail;go_meet
   exact ⟨A,rfl,rfl,hr6,hAl,hs2,hV6⟩
 case rest=>
  obtain ⟨A,rfl,rfl,hA,hAl,hB9,F',c',hst,hpw,hcb,hnA⟩:=hcut;have hnF:∀x,w.heap.size≤x→ ¬F x:=fun x hx e=>by have:=HF.out x e;omega
  have hw0:W0.heap.size=w.heap.size+2:=HN.out.2.2.1;have hge:=HR3.out.ge;have hgra:=HR3.out.gra.kp hst.kp (hnF _ (by omega));have hgrb:=HR3.out.grb.kp hst.kp (hnF _ (by omega));have hgrl:=HR3.out.grl.kp hst.kp (hnF _ (by omega));have hss:=hst.kp.blk HR3.out.ss (hnF _ (by omega));have hbk:=HBK3.out.stay hst.kp (fun x hx=>hnF x (by have:=(HFB.out x hx).1;omega));have hz9:=hst.kp.blk HZ3.out (hnF _ (by omega));have hal:=HALL.out;have hdg:=HD.out.gen;have hLLb:LL≤1000000000:=by have:=HLE.out;have:=HM.out.2.1;omega
  have hGb:G≤1000000000:=by have:=HGE.out;omega
  have hlz:0<(n-2*k)*z:=Nat.mul_pos (by omega) (by have:=HZ.out.1.1;omega);have HLN:=hid (fun W' (hb:Below wc.heap.size wc W')=>lnew_any rl p z (2*k) (n-2*k) G LL W' (hgrl.new hb) hlz (by omega) (by unfold MX;omega) (by unfold MX;omega));have hkz2:2*z≤k*z:=Nat.mul_le_mul_right _ hal.1;have hkzb:k*z≤96*4096:=Nat.mul_le_mul (by have:=HZ.out.2;omega) HZ.out.1.2;have HMK:=hid (fun W' (hb:Below wc.heap.size wc W') l (hwl:Wl W' l rl p z (2*k) (n-2*k) ⟨0,LL,LL,G,[]⟩ (.slice none 0 0))=>emake_any l rl p z (2*k) (n-2*k) sl ra rb pb (k*z) k ⟨0,LL,LL,G,[]⟩ (.slice none 0 0) Fb (48+2*(bodiesF z n k g0 c0 D).length) b1 W' hwl hlz (Bl.blk hb hss) (hgra.new hb) rfl ⟨hkz2,HZ.out.1.1,by omega⟩ (hbk.new hb) HM.out.2.2.1);have HWC:=hid (And.intro hgra (And.intro hgrb (And.intro hgrl (And.intro hss (And.intro hbk hz9)))));have HST:=hid (And.intro hst (And.intro hpw (And.intro hcb hAl)));have HA:=hid hA;have HB9:=hid hB9;clear hgra hgrb hgrl hss hbk hz9 hst hpw hcb hnA hnF hw0 hge hal hdg hLLb hGb hlz hkz2 hkzb hAl HSV;go_wp2_with fail;refine wp_region_held_drew (S:=fun w'=>w'.heap[B]?=some (.cells #[.pointer (some ⟨sl,0,none⟩),.pointer (some ⟨rl,0,none⟩),.int .u64 g0,.int .u64 c0,.int .i64 m0,.pointer (some ⟨pb,0,none⟩)] 82 (0,0))∧w'.heap[A]?=some (.cells #[.int .u64 G,.int .u64 LL,.int .i64 N9,.int .u32 C9] 88 (0,0))) (by kernel_rfl) (⟨HB9.out,HA.out⟩) (fun hHeld=>?_);refine tkm 5 [(0,47),(1,48),(2,49),(3,50),(4,51)] (by kernel_rfl) (fun _ _ _ _ _ h=>h) (by assumption) ?_;iterate 5
   refine ysC (v:=?_) rfl rfl (fun w9 hS9=>?_) ?_;rotate_left
   ·obtain ⟨b0',_,b1',_,b2',_,b3',_,b4',_,b5',_⟩:=cells6 hS9.1;obtain ⟨h0',_,h1',_,h2',_,h3',_⟩:=cells4 hS9.2;go_simp;try with_reducible rfl
   simp only [Act.put,List.setIfInBounds_toArray,List.set_cons_zero,List.set_cons_succ]
  refine ysN ?_;refine rd1 5 (by kernel_rfl) rfl (fun K9 hK9=>?_);go_simp;refine (elast_any B sl rl c0 m0 (g0:Int) (.pointer (some ⟨pb,0,none⟩)) _ hHeld.1 HCC.out.1 HCC.out.2).mono ?_;rintro e w4 ⟨q9,rfl,hYq⟩;have hb9:Below wc.heap.size wc w4:=(Below.refl _ wc).drew.trans (below_of_drewN hYq);clear hYq;rw [HLE.out];have hs1:=Bl.blk hb9 HB9.out;have hs2:=Bl.blk hb9 HA.out;have HB4:=hid hb9;go_simp;refine hK9.out _ _ (⟨hs1,hs2⟩) (fun hHeld=>?_);clear hK9 K9;clear hs1 hs2 hb9;refine rd1 6 (by kernel_rfl) rfl (fun K9 hK9=>?_);go_simp;refine (HLN.out _ HB4.out).mono ?_;rintro e w5 ⟨l,rfl,hwl,hll,hb9⟩;have hb5:=HB4.out.trans (hb9.mono HB4.out.size);have hs1:=Bl.blk hb5 HB9.out;have hs2:=Bl.blk hb5 HA.out;have HB5:=hid hb5;have HWL:=hid hwl;have HLL:=hid (Nat.le_trans HB4.out.size hll);go_simp;refine hK9.out _ _ (⟨hs1,hs2⟩) (fun hHeld=>?_);clear hK9 K9;clear hs1 hs2 hb9 hb5 hwl hll;refine tkm 5 [(7,46),(8,54),(9,55),(10,12),(11,13)] (by kernel_rfl) (fun _ _ _ _ _ h=>h) (by assumption) ?_;iterate 5
   refine ysC (v:=?_) rfl rfl (fun w9 hS9=>?_) ?_;rotate_left
   ·obtain ⟨b0',_,b1',_,b2',_,b3',_,b4',_,b5',_⟩:=cells6 hS9.1;obtain ⟨h0',_,h1',_,h2',_,h3',_⟩:=cells4 hS9.2;go_simp;try with_reducible rfl
   simp only [Act.put,List.setIfInBounds_toArray,List.set_cons_zero,List.set_cons_succ]
  refine ysN ?_;refine wpAnyH_done (by kernel_rfl) ?_ _;have hbw5:Below wc.heap.size wc w5:=HB5.out;obtain ⟨a0,_,a1,_,a2,_,a3,_,a4,_,a5,_⟩:=cells6 (Bl.blk hbw5 HB9.out);have HMK5:=hid (HMK.out w5 hbw5 l HWL.out);clear hA hB9 hbw5;go_wp2_with fail;refine HMK5.out.mono ?_;rintro e w6 ⟨en,mb,rfl,hen,hmb,hle,hlm,hne,hb6⟩;have HB6:=hid (HB5.out.trans (hb6.mono HB5.out.size));have hB6:=Bl.blk HB6.out HB9.out;have hz6:=Bl.blk HB6.out HWC.out.2.2.2.2.2;obtain ⟨b0',_,b1',_,b2',_,b3',_,b4',_,b5',_⟩:=cells6 hB6;obtain ⟨z0,f0,z1,f1,z2,f2⟩:=cells3 hz6;have HEN:=hid (And.intro hen (And.intro hmb (And.intro hle (And.intro hlm (And.intro hne hb6)))));have HB6':=hid hB6;have HZ6:=hid hz6;clear a0 a1 a2 a3 a4 a5 hen hmb hle hlm hne hb6 hB6 hz6;go_wp2_with fail;refine wp_region_held_drew (S:=fun w'=>w'.heap[B]?=some (.cells #[.pointer (some ⟨sl,0,none⟩),.pointer (some ⟨rl,0,none⟩),.int .u64 g0,.int .u64 c0,.int .i64 m0,.pointer (some ⟨pb,0,none⟩)] 82 (0,0))) (by kernel_rfl) (HB6'.out) (fun hHeld=>?_);have hX:Below w6.heap.size w6 w6.drew:=(Below.refl _ _).drew;have hzX:w6.drew.heap[w.heap.size+1]?=some (.cells #[.int .u64 0,.int .u64 0,.int .i64 0] 41 (0,0)):=HZ6.out;have hbX:w6.drew.heap[B]?=some (.cells #[.pointer (some ⟨sl,0,none⟩),.pointer (some ⟨rl,0,none⟩),.int .u64 g0,.int .u64 c0,.int .i64 m0,.pointer (some ⟨pb,0,none⟩)] 82 (0,0)):=HB6'.out;generalize w6.drew=X6 at *;clear b0' b1' b2' b3' b4' b5' z0 f0 z1 f1 z2 f2;refine tkm 5 [(0,66),(1,67),(2,68),(3,69),(4,4)] (by kernel_rfl) (fun _ _ _ _ _ h=>h) (by assumption) ?_;iterate 5
   refine ysC (v:=?_) rfl rfl (fun w9 hS9=>?_) ?_;rotate_left
   ·obtain ⟨b0',_,b1',_,b2',_,b3',_,b4',_,b5',_⟩:=cells6 hS9;go_simp;try with_reducible rfl
   simp only [Act.put,List.setIfInBounds_toArray,List.set_cons_zero,List.set_cons_succ]
  refine ysN ?_;refine rd1 5 (by kernel_rfl) rfl (fun K9 hK9=>?_);obtain ⟨z0,f0,z1,f1,z2,f2⟩:=cells3 hzX;go_simp;have hk7:=rset3_kp (F:=fun x=>x=w.heap.size+1) (Kp.refl _ X6) rfl (.int .u64 g0) (.int .u64 c0) (.int .i64 m0);have hz7:=rset3 (x0:= .int .u64 g0) (x1:= .int .u64 c0) (x2:= .int .i64 m0) hzX;have hs1:=hk7.blk hbX (fun e=>by have h9:B=w.heap.size+1:=e;have:=HBW.out;omega);have HK8:=hid ((Kp.of_new (F:=fun x=>x=w.heap.size+1) hX).trans hk7);have HZ7:=hid hz7;generalize ((X6.setCell ⟨w.heap.size+1,0,none⟩ (.int .u64 g0)).setCell ⟨w.heap.size+1,1,none⟩ (.int .u64 c0)).setCell ⟨w.heap.size+1,2,none⟩ (.int .i64 m0)=w7 at *;refine hK9.out _ _ (hs1) (fun hHeld=>?_);clear hK9 K9;clear z0 f0 z1 f1 z2 f2 hk7 hz7 hs1 hzX hbX hX;refine tkm 1 [(6,6)] (by kernel_rfl) (fun _ _ _ _ _ h=>h) (by assumption) ?_;refine ysC (v:=?_) rfl rfl (fun w9 hS9=>?_) ?_;rotate_left
  ·obtain ⟨b0',_,b1',_,b2',_,b3',_,b4',_,b5',_⟩:=cells6 hS9;go_simp;try with_reducible rfl
  simp only [Act.put,List.setIfInBounds_toArray,List.set_cons_zero,List.set_cons_succ];refine ysN ?_;refine wpAnyH_done (by kernel_rfl) ?_ _;go_wp2_with fail;refine bodyPost_ret (results_tct rfl _ _ _ _ _ _ _ rfl HZ7.out Tryz.underlying41 rfl (by kernel_rfl)) rfl ?_;obtain ⟨hen,hmb,hle,hlm,hne,hb6⟩:=HEN.out;obtain ⟨hst,hpw,hcb,hAl⟩:=HST.out;have hb56:=HB5.out;have hb66:=HB6.out;have hk8:=HK8.out;have hge:=HR3.out.ge;have hw0:W0.heap.size=w.heap.size+2:=HN.out.2.2.1;have hBL:=HBL.out;have hll:=HLL.out;have hs3:=hst.kp.size;have hs5:=hb56.size;have hs6:=hb66.size;have hal:=HALL.out;have hsl3:=heap_lt HR3.out.ss;have hrl3:=heap_lt HR3.out.grl;have hra3:=heap_lt HR3.out.gra;have hrb3:=heap_lt HR3.out.grb;have hFn:∀x,F' x→x<w.heap.size∨w3.heap.size≤x:=fun x hx=>by
   rcases hst.sub x hx with e | e
   ·exact Or.inl (HF.out x e)
   ·exact Or.inr e
  have hFl:∀x,F' x→x<wc.heap.size:=hst.lt;have hF1:∀x,F' x→1<x:=fun x hx=>by
   rcases hst.sub x hx with e | e
   ·exact HF1.out x e
   ·have:=HGL.out.size;omega
  have hFb3:∀x,Fb x→x<w3.heap.size:=fun x hx=>by have:=HBK3.out.flt x hx;omega
  have hnB:∀x,w.heap.size+4≤x→ ¬x=w.heap.size+1:=fun x hx e=>by omega
  have hnF':∀x,F' x→ ¬x=w.heap.size+1:=fun x hx e=>by have:=hFn x hx;omega
  have hgl7:Glb w7:=((HGL.out.kp (((Kp.of_new HN.out.2.2.2).trans (Kp.refl F W0)).trans (HR3.out.kp.trans hst.kp)) HF1.out).new hb66).kp hk8 (fun x e=>by have e2:x=w.heap.size+1:=e;have:=HGL.out.size;omega);have hC9:c'≤100000*t+100000000:=by have:=hal.2.2.2.2.1;have:=HZ.out.2;omega
  have hLLb:LL≤10000*t+100000:=by have:=HLE.out;have:=HM.out.2.1;have:=HD.out.gen.2;have:=hal.2.2.2.1;omega
  have hdsk:=open_dsk (LL:=LL) (C':=10000*t+100000) HD.out HZ.out.1.1 HR3.out.pw.len hal.1 (by omega) (by have:=(img_fits HM.out.2.2.1).2.1;have h9:=HM.out.2.2.2.1;rw [h9.1,h9.2.1] at this;have:=hal.2.2.2.2.2.2.2;omega) HM.out.2.2.1 HM.out.2.2.2.1 (by have:=hal.2.2.2.2.2.1;omega) hLLb (by omega) (by have:=hal.2.2.2.2.2.1;omega);have hnn:∀x,(Value.slice none 0 0).ownBlock ≠some x:=fun x e=>by cases e
  have hl5:=heap_lt HWL.out.hd;have hra7:=(HWC.out.1.new hb66).kp hk8 (hnB ra (by omega));have hrb7:=(HWC.out.2.1.new hb66).kp hk8 (hnB rb (by omega));have hss7:Ss w7 sl ra rb:=hk8.blk (Bl.blk hb66 HWC.out.2.2.2.1) (hnB sl (by omega));have hen7:=hk8.blk hen (hnB en (by omega));have hmb7:=hmb.kp hk8 (hnB mb (by omega));have hwl7:Wl w7 l rl p z (2*k) (n-2*k) ⟨0,LL,LL,SlotPlain.gen oa ob+1,[]⟩ (.slice none 0 0):=by
   have h9:=(HWL.out.new hb6).stay hk8 (fun x hx e=>by
    have e3:x=w.heap.size+1:=e;rcases hx with e2 | e2
    ·omega
    ·exact hnn x e2) (hnB rl (by omega))
   rw [←HGE.out] at h9;exact h9
  have haw7:Aw F' l rl (.slice none 0 0):=fun x hx=>⟨fun e=>by
   rcases e with e | e
   ·have:=hFl x hx;omega
   ·exact hnn x e,fun e=>by have:=hFn x hx;omega⟩
  have hbk7:Bkk w7 pb Fb (2400+2*t) b1:=((HWC.out.2.2.2.2.1.new hb66).stay hk8 (fun x hx e=>hnB x (by have:=(HFB.out x hx).1;omega) e)).more (by have:=HM.out.1;omega);have hap7:Ap (fun x=>F' x∨Wf l (.slice none 0 0) x) Fb (fun x=>x=en∨(Value.slice none 0 0).ownBlock = some x) (fun x=>x≤1∨x=ra∨x=rb∨x=rl∨x=sl∨x=mb):=by
   refine ⟨?_,?_,?_,?_,?_,?_⟩
   ·intro x hx hb;have h1:=hFb3 x hb;have h2:=(HFB.out x hb).1;rcases hx with e | e | e
    ·have:=hFn x e;omega
    ·omega
    ·exact hnn x e
   ·intro x hx he;have e2:x=en:=by rcases he with e | e;exact e;exact absurd e (hnn x)
    rcases hx with e | e | e
    ·have:=hFl x e;omega
    ·omega
    ·exact hnn x e
   ·intro x hx hg;rcases hx with e | e | e
    ·have h1:=hFn x e;have h2:=hF1 x e;have h3:=hFl x e;omega
    ·have h2:=HGL.out.size;omega
    ·exact hnn x e
   ·intro x hb he;have e2:x=en:=by rcases he with e | e;exact e;exact absurd e (hnn x)
    have h1:=hFb3 x hb;omega
   ·intro x hb hg;have h1:=hFb3 x hb;have h2:=HFB.out x hb;omega
   ·intro x he hg;have e2:x=en:=by rcases he with e | e;exact e;exact absurd e (hnn x)
    have h2:=HGL.out.size;omega
  have hstep:Step F (fun x=>(F' x∨Wf l (.slice none 0 0) x)∨Fb x∨(x=en∨(Value.slice none 0 0).ownBlock = some x)) w w7:=by
   refine ⟨?_,?_,?_⟩
   ·exact (((Kp.of_new HN.out.2.2.2).trans (HR3.out.kp.trans hst.kp)).trans (Kp.of_new hb66)).then hk8 (fun x e=>Or.inr (by have e2:x=w.heap.size+1:=e;omega))
   ·intro x hx;rcases hx with (e | e | e) | e | e | e
    ·rcases hst.sub x e with e2 | e2
     ·exact Or.inl e2
     ·exact Or.inr (by omega)
    ·exact Or.inr (by omega)
    ·exact absurd e (hnn x)
    ·exact Or.inr (by have:=(HFB.out x e).1;omega)
    ·exact Or.inr (by omega)
    ·exact absurd e (hnn x)
   ·intro x hx;have h7:=hk8.size;have hel:=heap_lt hen;have hs56:=hb6.size;rcases hx with (e | e | e) | e | e | e
    ·have:=hFl x e;omega
    ·omega
    ·exact absurd e (hnn x)
    ·have:=hFb3 x e;omega
    ·omega
    ·exact absurd e (hnn x)
  have hdsk7:Dsk (saveD D z (nextF k oa ob) (SlotPlain.gen oa ob+1) LL (imgF b1)) z k b1.s b1.c b1.g (SlotPlain.saved oa ob LL (imgF b1)).1 (SlotPlain.saved oa ob LL (imgF b1)).2 (100+t) (10000*t+100000):=by
   have hh:=HM.out.2.2.2.1;rw [hh.1,hh.2.1,hh.2.2];have e9:99+t+1=100+t:=by omega
   rw [e9] at hdsk;exact hdsk
  have hfi7:20+14*min b1.s b1.c≤k*z-z:=by rw [HM.out.2.2.2.1.1,HM.out.2.2.2.1.2.1];exact hal.2.2.2.2.2.2.2
  refine ⟨⟨en,p,ra,rb,rl,sl,l,mb,pb,z,n,k⟩,⟨F',.slice none 0 0,Fb,.slice none 0 0,c'⟩,?_,rfl,rfl,rfl,rfl,?_,hstep,hcb⟩
  ·rw [HM.out.2.2.2.2.2];rfl
  ·rw [HM.out.2.2.2.2.2,HM.out.2.2.2.2.1,HLE.out];exact ⟨⟨(hpw.new hb66).stay hk8 hnF',hra7,hrb7,hss7,hwl7,haw7⟩,hbk7,⟨hen7,hmb7,World.ownsRow_nil _ _ _ _,hnn en⟩,hap7,hgl7,⟨HM.out.2.2.1,hdsk7,hal.1,hal.2.1,hfi7,Nat.zero_le _,(fun r hr=>by cases hr),hC9,hLLb,hal.2.2.2.2.2.1⟩⟩
def zBlt:Array Value:=#[.pointer none,.pointer none,.int .u64 0,.int .u64 0,.int .i64 0,.pointer none]
theorem rbuild_bad (p z n:Nat)(D:List Nat)(F:Nat→Prop)(c9 q:Nat)(s c g:Int)(w:World)(hn:0<n)(hp:Pw w p z n D F c9 q)(HPL:Hid (∀W',Calls Tryz.prog 14 #[.int .i64 n,.int .i64 z,.agg #[.int .i64 s,.int .i64 c,.int .i64 g]] W' (PlanBad W'))):
 Calls Tryz.prog 22 #[.pointer (some ⟨p,0,none⟩),.agg #[.int .i64 s,.int .i64 c,.int .i64 g]] w fun e w'=> ∃f:Int,e = .returned (.tuple #[.agg zBlt,.int .i64 f])∧f≠0∧Below w.heap.size w w':=by
 have N:=new2 w (.cells #[.int .i64 s,.int .i64 c,.int .i64 g] 23) (.cells #[.pointer none,.pointer none,.int .u64 0,.int .u64 0,.int .i64 0,.pointer none] 82);obtain ⟨W0,hW0⟩:∃W,(w.alloc (.cells #[.int .i64 s,.int .i64 c,.int .i64 g] 23)).alloc (.cells #[.pointer none,.pointer none,.int .u64 0,.int .u64 0,.int .i64 0,.pointer none] 82)=W:=⟨_,rfl⟩;rw [hW0] at N;have HLY:=hid (rlayout_bad p z n D F c9 q s c g W0 hn (hp.new N.2.2.2) HPL);have HN:=hid N;obtain ⟨q0,_,q1,_,q2,_⟩:=cells3 N.1;clear hp N hn HPL;go_enter Tryz.func22,Tryz.ntmps22;go_wp2_with fail;refine HLY.out.mono ?_;rintro e w1 ⟨f,rfl,hf,hb1⟩;have hfb:(f != 0)=true:=by simp [hf]
 have hB1:=Bl.blk hb1 HN.out.2.1;have HF:=hid hf;obtain ⟨o0,p0,o1,p1,o2,p2,o3,p3,o4,p4,o5,p5⟩:=cells6 hB1;have hk2:=rset2_kp (F:=fun x=>x=w.heap.size+1) (Kp.refl _ w1) rfl (.pointer none) (.pointer none);have hB3:=heap_setCell_same _ (w.heap.size+1) 1 _ 82 (.pointer none) (heap_setCell_same w1 (w.heap.size+1) 0 _ 82 (.pointer none) hB1);have HB3:=hid hB3;have HBW:Hid (Below w.heap.size w ((w1.setCell ⟨w.heap.size+1,0,none⟩ (.pointer none)).setCell ⟨w.heap.size+1,1,none⟩ (.pointer none))):=hid ((HN.out.2.2.2.trans (hb1.mono HN.out.2.2.2.size)).trans (hk2.below (Nat.le_trans HN.out.2.2.2.size hb1.size) (fun i e=>by have e2:i=w.heap.size+1:=e;omega)));clear q0 q1 q2 hb1 hf hB1 hk2 hB3;go_wp2_with fail;generalize (w1.setCell ⟨w.heap.size+1,0,none⟩ (.pointer none)).setCell ⟨w.heap.size+1,1,none⟩ (.pointer none)=w2 at *;have hB3:w2.heap[w.heap.size+1]?=some (.cells #[.pointer none,.pointer none,.int .u64 0,.int .u64 0,.int .i64 0,.pointer none] 82 (0,0)):=HB3.out;refine bodyPost_ret (results_row2 rfl _ _ _ _ _ _ _ rfl (rset6 hB3) Tryz.underlying82 rfl (by kernel_rfl)) rfl ?_;exact ⟨f,rfl,HF.out,rset6_below HBW.out (by omega) _ _ _ _ _ _⟩
def ROpB (w:World)(e:Ending)(w':World):Prop:= ∃en,∃f:Int,e = .returned (.tuple #[.pointer (some ⟨en,0,none⟩),.agg #[.int .u64 0,.int .u64 0,.int .i64 0],.int .i64 f])∧f≠0∧w'.heap[en]?=some (.cells idleC 67 (0,0))∧Below w.heap.size w w'
theorem results_tct2 {P:Program}{fn:Func}{p u v:Tmp}{ty:TypeId}(h:fn.results=#[.tmp u,.cell p ty,.tmp v])(tmps:Array Value)(w:World)(g:Nat)(t:TypeId)(cs:Array Value)(fr:Nat×Nat)(d:TypeDesc)(hp:tmps.getD p undef = .pointer (some ⟨g,0,none⟩))(hg:w.heap[g]?=some (.cells cs t fr))(hu:P.underlying ty=some d)(hd:(match d with | .struct _ | .array _ _=>true | _=>false)=true)(hi:(P.info? ty).map (·.size)=some cs.size):
 (results fn tmps).run P w = .ok (.tuple #[tmps.getD u undef,.agg cs,tmps.getD v undef]) w:=by
 have hp':tmps[p]?.getD undef = .pointer (some ⟨g,0,none⟩):=by simpa using hp
 simp [results,h,hp',asAddr,run_loadVar_row w g t ty cs fr d hg hu hd hi]
theorem ropen_bad (p z n:Nat)(D:List Nat)(F:Nat→Prop)(c9 q:Nat)(s c g:Int)(w:World)(hn:0<n)(hp:Pw w p z n D F c9 q)(HPL:Hid (∀W',Calls Tryz.prog 14 #[.int .i64 n,.int .i64 z,.agg #[.int .i64 s,.int .i64 c,.int .i64 g]] W' (PlanBad W'))):
 Calls Tryz.prog 11 #[.pointer (some ⟨p,0,none⟩),.agg #[.int .i64 s,.int .i64 c,.int .i64 g]] w (ROpB w):=by
 have N:=new2 w (.cells #[.int .i64 s,.int .i64 c,.int .i64 g] 23) (.cells #[.int .u64 0,.int .u64 0,.int .i64 0] 41);obtain ⟨W0,hW0⟩:∃W,(w.alloc (.cells #[.int .i64 s,.int .i64 c,.int .i64 g] 23)).alloc (.cells #[.int .u64 0,.int .u64 0,.int .i64 0] 41)=W:=⟨_,rfl⟩;rw [hW0] at N;have HBD:=hid (rbuild_bad p z n D F c9 q s c g W0 hn (hp.new N.2.2.2) HPL);have HN:=hid N;obtain ⟨q0,_,q1,_,q2,_⟩:=cells3 N.1;clear hp N hn HPL;go_enter Tryz.func11,Tryz.ntmps11;go_wp2_with fail;refine HBD.out.mono ?_;rintro e w1 ⟨f,rfl,hf,hb1⟩;have hfb:(f != 0)=true:=by simp [hf]
 have HF:=hid hf;unfold zBlt;have N2:=new1 w1 (.cells #[.pointer none,.pointer none,.int .u64 0,.int .u64 0,.int .i64 0,.pointer none] 82);have HZ2:=hid (Bl.blk N2.2.2 (Bl.blk hb1 HN.out.2.1));have HB2:=hid ((HN.out.2.2.2.trans (hb1.mono HN.out.2.2.2.size)).trans (N2.2.2.mono (Nat.le_trans HN.out.2.2.2.size hb1.size)));clear q0 q1 q2 hb1 hf N2;go_wp2_with fail;refine (eidle_any _).mono ?_;rintro e w3 ⟨en,rfl,hen,hle,hb3⟩;have hz3:=Bl.blk hb3 HZ2.out;obtain ⟨z0,f0,z1,f1,z2,f2⟩:=cells3 hz3;have hs2:=HB2.out.size;have hk3:=rset3_kp (F:=fun x=>x=w.heap.size+1) (Kp.refl _ w3) rfl (.int .u64 0) (.int .u64 0) (.int .i64 0);have hzl:=heap_lt HZ2.out;have HE:=hid (hk3.blk hen (fun e=>by have e2:en=w.heap.size+1:=e;omega));have HBB:=hid ((HB2.out.trans (hb3.mono hs2)).trans (hk3.below (Nat.le_trans hs2 hb3.size) (fun i e=>by have e2:i=w.heap.size+1:=e;omega)));have HZ3:=hid hz3;clear hen hle hb3 hz3 hs2 hk3 hzl;go_wp2_with fail;refine bodyPost_ret (results_tct2 rfl _ _ _ _ _ _ _ rfl (rset3 HZ3.out) Tryz.underlying41 rfl (by kernel_rfl)) rfl ?_;exact ⟨en,f,rfl,HF.out,HE.out,HBB.out⟩
theorem slotN_two {s c z:Nat}(hs:1≤s)(hc:1≤c)(hz:64≤z)(h9:z≤4096):2≤slotN s c z∧20+14*min s c≤slotN s c z*z-z:=by
 unfold slotN;obtain ⟨x,hx⟩:∃x,20+14*min s c=x:=⟨_,rfl⟩;rw [hx];have hx1:34≤x:=by omega
 have h1:1≤(x+z-1) / z:=(Nat.le_div_iff_mul_le (by omega)).2 (by omega);have h2:x≤(x+z-1) / z*z:=by
  have h3:=Nat.div_add_mod (x+z-1) z;have h4:=Nat.mod_lt (x+z-1) (show 0<z by omega);rw [Nat.mul_comm] at h3;omega
 refine ⟨by omega,?_⟩;rw [Nat.add_mul,Nat.one_mul];omega
structure Opn (p z n k s c g:Nat):Prop where
 s1:1≤s∧s≤24
 c1:1≤c∧c≤24
 g1:1≤g∧g≤64
 sz:sizedB z=true
 zz:64≤z∧z≤256
 nn:n≤96
 kk:slotN s c z=k
 kn:2*k+1≤n
theorem ropen_ok (p z n k:Nat)(D:List Nat)(F:Nat→Prop)(c t s cc g:Nat)(oa ob:Option SlotPlain.Sl)(w:World)(ho:Opn p z n k s cc g)(hp:Pw w p z n D F c 0)(hd:Dsk D z k s cc g oa ob (99+t) (10000*t+98000))(hc:c+1000≤100000*t+100000000)(ht:t≤400)(hgl:Glb w)(hF1:∀x,F x→1<x):
 ∃g0 c0 b0,Bks oa ob s cc g g0 c0 b0∧Sound b0∧(b0.s=s∧b0.c=cc∧b0.g=g)∧g0=SlotPlain.gen oa ob∧c0=SlotPlain.cov oa ob∧Calls Tryz.prog 11 #[.pointer (some ⟨p,0,none⟩),.agg #[.int .i64 s,.int .i64 cc,.int .i64 g]] w (ROpn w p z n k D F c g0 c0 t b0 oa ob):=by
 obtain ⟨g0,c0,b0,h1,h2,h3,h4,h5,h6,h7,h8,h9⟩:=bks_of hd ho.s1 ho.c1 ho.g1;refine ⟨g0,c0,b0,h1,h2,⟨h3,h4,h5⟩,h6,h7,?_⟩;subst h3 h4 h5;have hk:=slotN_two ho.s1.1 ho.c1.1 ho.zz.1 (by have:=ho.zz.2;omega);rw [ho.kk] at hk;have hkn:=ho.kn;have hnz:(n-2*k)*z≤25000:=by
  have h9:(n-2*k)*z≤96*256:=Nat.mul_le_mul (by have:=ho.nn;omega) ho.zz.2;omega
 refine ropen_any p z n k D F c g0 c0 t b0 oa ob w (hid (fun W' hb=>?_)) hp hk.1 hkn hd h6 h7 h2 hc ht hgl hF1 hnz hk.2;refine rbuild_any p z n k D F c g0 c0 (99+t) (10000*t+98000) b0 oa ob (2*k) (n-2*k) W' rfl rfl (hp.new hb) (hid (fun W2=>?_)) hk.1 hkn hd h1 h2 (by omega) (by omega) (by omega) (hgl.new hb) hF1 hnz;exact plan_ok b0.s b0.c b0.g z n k W2 ho.s1.1 (by have:=ho.s1.2;omega) ho.c1.1 (by have:=ho.c1.2;omega) ho.g1.1 ho.g1.2 ho.sz ho.nn ho.kk hkn
end
end Go.Proofs.YtdjiopacieadpaaGreatDoor
