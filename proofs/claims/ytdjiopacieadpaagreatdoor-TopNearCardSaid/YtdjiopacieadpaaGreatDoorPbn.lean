/- TopNear: part Pbn: RcB RcC RcD. -/
import Derived.Test.YtdjiopacieadpaaGreatDoorPbm
set_option linter.unusedVariables false
set_option linter.unusedSimpArgs false
set_option maxRecDepth 8000
set_option maxHeartbeats 8000000
namespace Go.Proofs.YtdjiopacieadpaaGreatDoor
section
open Go.RowKit BookPlain FlatPlain
def Bks (oa ob:Option SlotPlain.Sl)(s c g g0 c0:Nat)(b0:Bk):Prop:=
 (SlotPlain.pick oa ob=none∧g0=0∧c0=0∧b0=newB s c g)∨(∃i x,SlotPlain.pick oa ob=some (i,x)∧g0=x.1∧c0=x.2.1∧x.2.2=imgF b0∧Sound b0∧b0.s=s∧b0.c=c∧b0.g=g)
theorem pick_mem {oa ob:Option SlotPlain.Sl}{i:Nat}{x:SlotPlain.Sl}(hp:SlotPlain.pick oa ob=some (i,x)):oa=some x∨ob=some x:=by
 unfold SlotPlain.pick at hp;cases oa with
 | none=>
  cases ob with
  | none=>simp at hp
  | some b=>simp at hp;exact Or.inr (by rw [hp.2])
 | some a=>
  cases ob with
  | none=>simp at hp;exact Or.inl (by rw [hp.2])
  | some b=>
   simp at hp;split at hp
   ·simp at hp;exact Or.inr (by rw [hp.2])
   ·simp at hp;exact Or.inl (by rw [hp.2])
theorem bks_of {D:List Nat}{z k s c g:Nat}{oa ob:Option SlotPlain.Sl}{G C:Nat}(h:Dsk D z k s c g oa ob G C)(hs:1≤s∧s≤24)(hc:1≤c∧c≤24)(hg:1≤g∧g≤64):∃g0 c0 b0,Bks oa ob s c g g0 c0 b0∧Sound b0∧b0.s=s∧b0.c=c∧b0.g=g∧g0=SlotPlain.gen oa ob∧c0=SlotPlain.cov oa ob∧g0≤G∧c0≤C:=by
 have hgen:=h.gen;cases hp:SlotPlain.pick oa ob with
 | none=>
  have e1:SlotPlain.gen oa ob=0:=by unfold SlotPlain.gen;rw [hp]
  have e2:SlotPlain.cov oa ob=0:=by unfold SlotPlain.cov;rw [hp]
  exact ⟨0,0,newB s c g,Or.inl ⟨hp,rfl,rfl,rfl⟩,newB_sound hs hc hg,rfl,rfl,rfl,e1.symm,e2.symm,Nat.zero_le _,Nat.zero_le _⟩
 | some y=>
  obtain ⟨i,x⟩:=y;have e1:SlotPlain.gen oa ob=x.1:=by unfold SlotPlain.gen;rw [hp]
  have e2:SlotPlain.cov oa ob=x.2.1:=by unfold SlotPlain.cov;rw [hp]
  have hx:(∃b,Sound b∧b.s=s∧b.c=c∧b.g=g∧x.2.2=imgF b)∧x.1≤G∧x.2.1≤C:=by
   rcases pick_mem hp with e | e
   ·exact h.ia x e
   ·exact h.ib x e
  obtain ⟨⟨b,h1,h2,h3,h4,h5⟩,h6,h7⟩:=hx;exact ⟨x.1,x.2.1,b,Or.inr ⟨i,x,hp,rfl,rfl,h5,h1,h2,h3,h4⟩,h1,h2,h3,h4,e1.symm,e2.symm,h6,h7⟩
structure RbS (w W:World)(p z n k k2 nk:Nat)(D:List Nat)(F:Nat→Prop)(c sl rl ra rb:Nat):Prop where
 pw:Pw W p z n D F c 0
 gra:Rg W ra p z 0 k
 grb:Rg W rb p z k k
 grl:Rg W rl p z k2 nk
 ss:Ss W sl ra rb
 kp:Kp F w W
 ge:w.heap.size+2≤ra∧w.heap.size+2≤rb∧w.heap.size+2≤rl∧w.heap.size+2≤sl
 fl:∀x,F x→x<w.heap.size
theorem RbS.new {w W W':World}{p z n k k2 nk:Nat}{D:List Nat}{F:Nat→Prop}{c sl rl ra rb:Nat}(h:RbS w W p z n k k2 nk D F c sl rl ra rb)(hb:Below W.heap.size W W'):RbS w W' p z n k k2 nk D F c sl rl ra rb:=
 ⟨h.pw.new hb,h.gra.new hb,h.grb.new hb,h.grl.new hb,Bl.blk hb h.ss,h.kp.trans (Kp.of_new hb),h.ge,h.fl⟩
theorem RbS.set {w W W':World}{p z n k k2 nk:Nat}{D:List Nat}{F:Nat→Prop}{c sl rl ra rb:Nat}(h:RbS w W p z n k k2 nk D F c sl rl ra rb)(hk:Kp (fun x=>x=w.heap.size+1) W W'):RbS w W' p z n k k2 nk D F c sl rl ra rb:=by
 have hn:∀x,w.heap.size+2≤x→ ¬x=w.heap.size+1:=fun x hx e=>by omega
 exact ⟨h.pw.stay hk (fun x hx e=>by have:=h.fl x hx;have e2:x=w.heap.size+1:=e;omega),h.gra.kp hk (hn _ h.ge.1),h.grb.kp hk (hn _ h.ge.2.1),h.grl.kp hk (hn _ h.ge.2.2.1),hk.blk h.ss (hn _ h.ge.2.2.2),h.kp.then hk (fun i e=>Or.inr (by have e2:i=w.heap.size+1:=e;omega)),h.ge,h.fl⟩
theorem RbS.dev {w W W':World}{p z n k k2 nk:Nat}{D:List Nat}{F:Nat→Prop}{c c' sl rl ra rb:Nat}(h:RbS w W p z n k k2 nk D F c sl rl ra rb)(hk:Kp F W W')(hp:Pw W' p z n D F c' 0):RbS w W' p z n k k2 nk D F c' sl rl ra rb:=by
 have hn:∀x,w.heap.size+2≤x→ ¬F x:=fun x hx e=>by have:=h.fl x e;omega
 exact ⟨hp,h.gra.kp hk (hn _ h.ge.1),h.grb.kp hk (hn _ h.ge.2.1),h.grl.kp hk (hn _ h.ge.2.2.1),hk.blk h.ss (hn _ h.ge.2.2.2),h.kp.trans hk,h.ge,h.fl⟩
def bodiesF (z n k g0 c0:Nat)(D:List Nat):List (List Nat):=(scanF g0 ((n-2*k)*z+1) (cut D (2*k*z) ((n-2*k)*z)) 0 c0).map (fun x=>x.2.2)
def bltV (sl rl g0 c0 m pb:Nat):Array Value:=#[.pointer (some ⟨sl,0,none⟩),.pointer (some ⟨rl,0,none⟩),.int .u64 g0,.int .u64 c0,.int .i64 m,.pointer (some ⟨pb,0,none⟩)]
def RBld (w:World)(p z n k:Nat)(D:List Nat)(F:Nat→Prop)(c g0 c0:Nat)(b0:Bk)(e:Ending)(w':World):Prop:=
 ∃sl rl ra rb pb Fb j,e = .returned (.tuple #[.agg (bltV sl rl g0 c0 (runF b0 (bodiesF z n k g0 c0 D)).2 pb),.int .i64 0])∧RbS w w' p z n k (2*k) (n-2*k) D F (c+j) sl rl ra rb∧Bkk w' pb Fb (48+2*(bodiesF z n k g0 c0 D).length) (runF b0 (bodiesF z n k g0 c0 D)).1∧(∀x,Fb x→w.heap.size+2≤x∧x≠sl∧x≠rl∧x≠ra∧x≠rb)∧j≤n-k+9
theorem RbS.stay {w W W':World}{p z n k k2 nk:Nat}{D:List Nat}{F:Nat→Prop}{c sl rl ra rb:Nat}{G:Nat→Prop}(h:RbS w W p z n k k2 nk D F c sl rl ra rb)(hk:Kp G W W')(hG:∀x,G x→w.heap.size+2≤x∧x≠sl∧x≠rl∧x≠ra∧x≠rb):RbS w W' p z n k k2 nk D F c sl rl ra rb:=
 ⟨h.pw.stay hk (fun x hx e=>by have:=h.fl x hx;have:=(hG x e).1;omega),h.gra.kp hk (fun e=>(hG _ e).2.2.2.1 rfl),h.grb.kp hk (fun e=>(hG _ e).2.2.2.2 rfl),h.grl.kp hk (fun e=>(hG _ e).2.2.1 rfl),hk.blk h.ss (fun e=>(hG _ e).2.1 rfl),h.kp.then hk (fun i e=>Or.inr (by have:=(hG i e).1;omega)),h.ge,h.fl⟩
def bltC (sl rl:Nat)(g0 c0 m:Int)(pb:Value):Array Value:=#[.pointer (some ⟨sl,0,none⟩),.pointer (some ⟨rl,0,none⟩),.int .u64 g0,.int .u64 c0,.int .i64 m,pb]
theorem bodies_of {xs:List Fr}{L:List (Nat×Nat×List Nat)}(h:xs.map frP=L):xs.map (fun x=>x.2.2.2)=L.map (fun x=>x.2.2):=by
 rw [←h,List.map_map];rfl
theorem rbuild_any (p z n k:Nat)(D:List Nat)(F:Nat→Prop)(c g0 c0 G C:Nat)(b0:Bk)(oa ob:Option SlotPlain.Sl)(k2 nk:Nat)(w:World)(hk2:2*k=k2)(hnk:n-2*k=nk)(hp:Pw w p z n D F c 0)(HPL:Hid (∀W',Calls Tryz.prog 14 #[.int .i64 n,.int .i64 z,.agg #[.int .i64 b0.s,.int .i64 b0.c,.int .i64 b0.g]] W' fun e w'=>e = .returned (.tuple #[.agg #[.int .i64 z,.int .i64 0,.int .i64 k,.int .i64 k,.int .i64 k,.int .i64 k2,.int .i64 nk],.int .i64 0])∧Below W'.heap.size W' w'))(hk:2≤k)(hkn:2*k+1≤n)(hd:Dsk D z k b0.s b0.c b0.g oa ob G C)(hB:Bks oa ob b0.s b0.c b0.g g0 c0 b0)(hs:Sound b0)(hc:c+40000000<1000000000)(hg0:g0<1000000000)(hc0:c0<1000000000)(hgl:Glb w)(hF1:∀x,F x→1<x)(hnz:nk*z≤25000):
 Calls Tryz.prog 22 #[.pointer (some ⟨p,0,none⟩),.agg #[.int .i64 b0.s,.int .i64 b0.c,.int .i64 b0.g]] w (RBld w p z n k D F c g0 c0 b0):=by
 have hz:=hp.hz;have hn96:=hp.n96;have hkz:k*z≤96*4096:=Nat.mul_le_mul (by omega) hz.2;have N:=new2 w (.cells #[.int .i64 b0.s,.int .i64 b0.c,.int .i64 b0.g] 23) (.cells #[.pointer none,.pointer none,.int .u64 0,.int .u64 0,.int .i64 0,.pointer none] 82);obtain ⟨W0,hW0⟩:∃W,(w.alloc (.cells #[.int .i64 b0.s,.int .i64 b0.c,.int .i64 b0.g] 23)).alloc (.cells #[.pointer none,.pointer none,.int .u64 0,.int .u64 0,.int .i64 0,.pointer none] 82)=W:=⟨_,rfl⟩;rw [hW0] at N;have HLY:=hid (rlayout_ok p z n D F c 0 b0.s b0.c b0.g k k2 nk W0 (by omega) (hp.new N.2.2.2) HPL hk2 hnk hk hkn hz.1 (by omega));have HNW:=hid (fun W'=>bknew_any b0.s b0.c b0.g W' hs.hs hs.hc hs.hg);have HIM:=hid (fun W' v (hv:Sl W' v (Lb (imgF b0)))=>imget_any b0 hs v W' hv);have HPP:=hid hp;have HGL:=hid hgl;have HF1:=hid hF1;have HN:=hid N;have HD:=hid hd;have HBK:=hid hB;have HSO:=hid hs;have HKK:=hid (And.intro hk2 (And.intro hnk (And.intro hk hkn)));have HCC:=hid (And.intro hc (And.intro hg0 hc0));have HNZ:=hid hnz;obtain ⟨q0,_,q1,_,q2,_⟩:=cells3 N.1;clear hp hgl hF1 N hd hB hs hk2 hnk hk hkn hc hg0 hc0 hz hn96 hkz HPL hnz;go_enter Tryz.func22,Tryz.ntmps22;go_wp2_with fail;refine HLY.out.mono ?_;rintro e w1 ⟨sl,rl,ra,rb,rfl,h1,h2,h3,h4,hge,hb1⟩;have hw0:=HN.out.2.2.1;have hr1:RbS w w1 p z n k k2 nk D F c sl rl ra rb:=⟨(HPP.out.new HN.out.2.2.2).new hb1,h1,h2,by rw [←HKK.out.1,←HKK.out.2.1];exact h3,h4,(Kp.of_new HN.out.2.2.2).trans (Kp.of_new hb1),by omega,HPP.out.flt⟩;have hB1:=Bl.blk hb1 HN.out.2.1;have hQ1:=Bl.blk hb1 HN.out.1;have hks:=rset2_kp (F:=fun x=>x=w.heap.size+1) (Kp.refl _ w1) rfl (.pointer (some ⟨sl,0,none⟩)) (.pointer (some ⟨rl,0,none⟩));have hr2:=hr1.set hks;have hB2:((w1.setCell ⟨w.heap.size+1,0,none⟩ (.pointer (some ⟨sl,0,none⟩))).setCell ⟨w.heap.size+1,1,none⟩ (.pointer (some ⟨rl,0,none⟩))).heap[w.heap.size+1]?=some (.cells (bltC sl rl 0 0 0 (.pointer none)) 82 (0,0)):=heap_setCell_same _ _ 1 _ 82 _ (heap_setCell_same w1 (w.heap.size+1) 0 _ 82 _ hB1);have hQ2:=hks.blk hQ1 (by omega);have HR2:=hid hr2;have HB2:=hid hB2;have HQ2:=hid hQ2;obtain ⟨o0,p0,o1,p1,o2,p2,o3,p3,o4,p4,o5,p5⟩:=cells6 hB1;clear q0 q1 q2 h1 h2 h3 h4 hge hb1 hw0 hr1 hB1 hQ1 hks hr2 hB2 hQ2;go_wp2_with fail;generalize (w1.setCell ⟨w.heap.size+1,0,none⟩ (.pointer (some ⟨sl,0,none⟩))).setCell ⟨w.heap.size+1,1,none⟩ (.pointer (some ⟨rl,0,none⟩))=w2 at *;have hgl2:Glb w2:=HGL.out.kp HR2.out.kp HF1.out;have hnF:∀x,w.heap.size+2≤x→ ¬F x:=fun x hx e=>by have:=HPP.out.flt x e;omega
 refine (sload_any sl ra rb p z k n D F c 0 oa ob w2 HR2.out.ss HR2.out.gra HR2.out.grb HR2.out.pw HD.out.sa HD.out.sb (hnF _ HR2.out.ge.1) (hnF _ HR2.out.ge.2.1) (hnF _ HR2.out.ge.2.2.2) (by have:=HCC.out.1;omega) (by have:=HKK.out.2.2.2;omega) HKK.out.2.2.1 hgl2.tab HF1.out).mono ?_;rintro e w3 ⟨j,hpw,hj,hkp,hcase⟩;have hun:∃(N9 C9:Nat) (v9:Value) (a9:Int),e = .returned (.tuple #[.agg (hdV g0 c0 N9 C9),v9,.int .i64 a9,.int .i64 0])∧((a9<0∧b0=newB b0.s b0.c b0.g)∨(¬a9<0∧Sl w3 v9 (Lb (imgF b0)))):=by
  rcases HBK.out with ⟨hp9,e1,e2,e3⟩ | ⟨i,x,hp9,e1,e2,e3,_⟩
  ·rcases hcase with ⟨_,h9⟩ | ⟨i',x',v',h9,_⟩
   ·exact ⟨0,0,_,_,by rw [h9,e1,e2],Or.inl ⟨by decide,e3⟩⟩
   ·rw [hp9] at h9;cases h9
  ·rcases hcase with ⟨h9,_⟩ | ⟨i',x',v',h9,hi,he,ho⟩
   ·rw [hp9] at h9;cases h9
   ·rw [hp9] at h9;injection h9 with h9;injection h9 with h91 h92;subst h91 h92;refine ⟨_,_,_,_,by rw [he,e1,e2],Or.inr ⟨by omega,?_⟩⟩;rw [←e3];exact Sl_of_own ho
 obtain ⟨N9,C9,v9,a9,rfl,hcs⟩:=hun;have hr3:=HR2.out.dev hkp hpw;have hB3:=hkp.blk HB2.out (fun e=>by have:=HPP.out.flt _ e;omega);have hQ3:=hkp.blk HQ2.out (fun e=>by have:=HPP.out.flt _ e;omega);have N4:=new1 w3 (.cells (hdV g0 c0 N9 C9) 88);unfold hdV at N4 ⊢;obtain ⟨W4,hW4⟩:∃W,w3.alloc (.cells #[.int .u64 g0,.int .u64 c0,.int .i64 N9,.int .u32 C9] 88)=W:=⟨_,rfl⟩;rw [hW4] at N4;obtain ⟨H,hH⟩:∃H,w3.heap.size=H:=⟨_,rfl⟩;have hr4:=hr3.new N4.2.2;have hB4:=Bl.blk N4.2.2 hB3;have hQ4:=Bl.blk N4.2.2 hQ3;have hv4:a9<0∧b0=newB b0.s b0.c b0.g∨ ¬a9<0∧Sl W4 v9 (Lb (imgF b0)):=by
  rcases hcs with e | ⟨e1,e2⟩
  ·exact Or.inl e
  ·exact Or.inr ⟨e1,Sl_below e2 N4.2.2 (Nat.le_refl _)⟩
 rw [hH] at N4;have hHw:w.heap.size+2≤H:=by have h9:=heap_lt hB3;omega
 have HR4:=hid hr4;have HB4:=hid hB4;have HQ4:=hid hQ4;have HV4:=hid hv4;have HH4:=hid N4.1;have HHW:=hid hHw;have HJ:=hid hj;obtain ⟨q0,_,q1,_,q2,_⟩:=cells3 hQ4;unfold bltC at hB4;obtain ⟨o0',p0',o1',p1',o2',p2',o3',p3',o4',p4',o5',p5'⟩:=cells6 hB4;clear o0 p0 o1 p1 o2 p2 o3 p3 o4 p4 o5 p5 hpw hj hkp hcase hcs hr3 hB3 hQ3 N4 hr4 hB4 hQ4 hv4 hHw hgl2;go_upto_if 38 with fail
 go_cut [5] (fun s5 wc=> ∃pb Fb,s5 = .int .i64 0∧RbS w wc p z n k k2 nk D F (c+j) sl rl ra rb∧wc.heap[w.heap.size+1]?=some (.cells (bltC sl rl 0 0 0 (.pointer (some ⟨pb,0,none⟩))) 82 (0,0))∧wc.heap[H]?=some (.cells #[.int .u64 g0,.int .u64 c0,.int .i64 N9,.int .u32 C9] 88 (0,0))∧Bkk wc pb Fb 48 b0∧(∀x,Fb x→w.heap.size+2≤x∧x≠sl∧x≠rl∧x≠ra∧x≠rb∧x≠H))
 case first=>
  have hreg:=HR4.out;have l1:=heap_lt hreg.ss;have l2:=heap_lt hreg.grl;have l3:=heap_lt hreg.gra;have l4:=heap_lt hreg.grb;have l5:=heap_lt HB4.out;have l6:=heap_lt HH4.out;have HFIN:Hid (∀(w5:World) (pb:Nat) (Fb:Nat→Prop) (K:Nat),K≤48→Bkk w5 pb Fb K b0→(∀x,Fb x→W4.heap.size≤x)→Below W4.heap.size W4 w5→RbS w (w5.setCell ⟨w.heap.size+1,5,none⟩ (.pointer (some ⟨pb,0,none⟩))) p z n k k2 nk D F (c+j) sl rl ra rb∧(w5.setCell ⟨w.heap.size+1,5,none⟩ (.pointer (some ⟨pb,0,none⟩))).heap[w.heap.size+1]?=some (.cells (bltC sl rl 0 0 0 (.pointer (some ⟨pb,0,none⟩))) 82 (0,0))∧(w5.setCell ⟨w.heap.size+1,5,none⟩ (.pointer (some ⟨pb,0,none⟩))).heap[H]?=some (.cells #[.int .u64 g0,.int .u64 c0,.int .i64 N9,.int .u32 C9] 88 (0,0))∧Bkk (w5.setCell ⟨w.heap.size+1,5,none⟩ (.pointer (some ⟨pb,0,none⟩))) pb Fb 48 b0∧(∀x,Fb x→w.heap.size+2≤x∧x≠sl∧x≠rl∧x≠ra∧x≠rb∧x≠H)):=hid (by
   intro w5 pb Fb K hK hbk hFb hb5;have hks:Kp (fun x=>x=w.heap.size+1) w5 (w5.setCell ⟨w.heap.size+1,5,none⟩ (.pointer (some ⟨pb,0,none⟩))):=Kp.setCell (F:=fun x=>x=w.heap.size+1) (Kp.refl _ w5) (p:=⟨w.heap.size+1,5,none⟩) rfl _;have hhw:=HHW.out;refine ⟨(hreg.new hb5).set hks,heap_setCell_same w5 (w.heap.size+1) 5 _ 82 _ (Bl.blk hb5 HB4.out),hks.blk (Bl.blk hb5 HH4.out) (fun e=>by have e2:H=w.heap.size+1:=e;omega),(hbk.more hK).stay hks (fun x hx e=>by have:=hFb x hx;have e2:x=w.heap.size+1:=e;omega),fun x hx=>?_⟩;have:=hFb x hx;omega)
  have HBB:=hid (fun (w5:World) (hb5:Below W4.heap.size W4 w5)=>Bl.blk hb5 HB4.out);clear hreg l1 l2 l3 l4 l5 l6;rcases HV4.out with ⟨ha,hb9⟩ | ⟨ha,hv⟩
  ·have HB9:=hid hb9;clear hb9;go_wp2_with fail;refine (HNW.out _).mono ?_;rintro e w5 ⟨pb,Fb,rfl,hbk,hFb,hb5⟩;rw [←HB9.out] at hbk;have hB5:=HBB.out w5 hb5;unfold bltC at hB5;obtain ⟨o0,p0,o1,p1,o2,p2,o3,p3,o4,p4,o5,p5⟩:=cells6 hB5;have HFF:=hid (HFIN.out w5 pb Fb 0 (by omega) hbk hFb hb5);clear hbk hFb hb5 hB5;go_wp2_with fail;go_meet
   exact ⟨pb,Fb,rfl,HFF.out⟩
  ·have HIX:=hid (HIM.out W4 v9 hv);clear hv;go_wp2_with fail;refine HIX.out.mono ?_;rintro e w5 ⟨pb,Fb,rfl,hbk,hFb,hb5⟩;have hB5:=HBB.out w5 hb5;unfold bltC at hB5;obtain ⟨o0,p0,o1,p1,o2,p2,o3,p3,o4,p4,o5,p5⟩:=cells6 hB5;have HFF:=hid (HFIN.out w5 pb Fb 48 (Nat.le_refl _) hbk hFb hb5);clear hbk hFb hb5 hB5;go_wp2_with fail;go_meet
   exact ⟨pb,Fb,rfl,HFF.out⟩
 case rest=>
  obtain ⟨pb,Fb,rfl,hr5,hB5,hH5,hbk5,hFb5⟩:=hcut;have hgl5:Glb wc:=HGL.out.kp hr5.kp HF1.out;have h2:=HKK.out;have h3:=HCC.out;have h4:=HNZ.out;have HNF:Hid (∀x,w.heap.size+1≤x→ ¬F x):=hid (fun x hx e=>by have:=HPP.out.flt x e;omega);have HWS:=hid (wscan_any rl p z k2 nk n g0 c0 D F (c+j) 0 wc hr5.grl hr5.pw (HNF.out _ (by have:=hr5.ge.2.2.1;omega)) (fun e=>by have:=HF1.out 1 e;omega) hgl5.tab (by have:=HJ.out;have:=HPP.out.n96;omega) (by omega) (by omega) (by omega) (by omega) (by omega));have hB5':=hB5;unfold bltC at hB5';obtain ⟨o0,p0,o1,p1,o2,p2,o3,p3,o4,p4,o5,p5⟩:=cells6 hB5';obtain ⟨e0,_,e1,_,e2,_,e3,_⟩:=cells4 hH5;have HR5:=hid hr5;have HB5:=hid hB5;have HH5:=hid hH5;have HBK5:=hid hbk5;have HFB5:=hid hFb5;have HFL5:=hid hbk5.flt;clear hr5 hB5 hB5' hH5 hbk5 hFb5 hgl5 h2 h3 h4 q0 q1 q2 o0' p0' o1' p1' o2' p2' o3' p3' o4' p4' o5' p5' hnF;go_wp2_with fail;refine HWS.out.mono ?_;rintro e w6 ⟨v6,xs,m6,j6,rfl,hxs,hfrs,hpw6,hj6,hk6⟩;have hr6:=HR5.out.dev hk6 hpw6;have hB6:=hk6.blk HB5.out (HNF.out _ (Nat.le_refl _));have hH6:=hk6.blk HH5.out (HNF.out _ (by have:=HHW.out;omega));have hbk6:=HBK5.out.stay hk6 (fun x hx=>HNF.out _ (by have:=(HFB5.out x hx).1;omega));have hbod:bodiesF z n k g0 c0 D=xs.map (fun x=>x.2.2.2):=by
   unfold bodiesF;rw [HKK.out.2.1,HKK.out.1];exact (bodies_of hxs).symm
  have hlen:xs.length≤1136:=by
   have h1:=scanF_len g0 (nk*z+1) (cut D (k2*z) (nk*z)) 0 c0;rw [←hxs,List.length_map] at h1;have h2:(cut D (k2*z) (nk*z)).length ≤nk*z:=by unfold cut;rw [List.length_take];omega
   have:=HNZ.out;omega
  have hfp:Frp Fb v6 xs:=fun y hy=>⟨fun e=>by have:=(hfrs.1.lt y e).1;have:=HFL5.out y hy;omega,fun x hx e=>by have:=((hfrs.2 x hx).1.lt y e).1;have:=HFL5.out y hy;omega⟩
  have HRN:=hid (rrun_any pb Fb 48 b0 wc.heap.size g0 v6 xs w6 hbk6 HSO.out (by omega) hfrs hfp);have HR6:=hid hr6;have HB6:=hid hB6;have HH6:=hid hH6;have HBOD:=hid hbod;have HJ6:=hid hj6;unfold bltC at hB6;clear o0 p0 o1 p1 o2 p2 o3 p3 o4 p4 o5 p5 e0 e1 e2 e3;obtain ⟨o0,p0,o1,p1,o2,p2,o3,p3,o4,p4,o5,p5⟩:=cells6 hB6;clear hxs hfrs hpw6 hj6 hk6 hr6 hB6 hH6 hbk6 hbod hlen hfp;go_wp2_with fail;refine HRN.out.mono ?_;rintro e w7 ⟨F7,er,rfl,hbk7,hst7⟩;rw [←HBOD.out] at hbk7 ⊢;obtain ⟨RB,hRB⟩:∃x,runF b0 (bodiesF z n k g0 c0 D)=x:=⟨_,rfl⟩;obtain ⟨LB,hLB⟩:∃x,(bodiesF z n k g0 c0 D).length = x:=⟨_,rfl⟩;rw [hRB,hLB] at hbk7;rw [hRB];have hr7:=HR6.out.stay hst7.kp (fun x hx=>⟨(HFB5.out x hx).1,(HFB5.out x hx).2.1,(HFB5.out x hx).2.2.1,(HFB5.out x hx).2.2.2.1,(HFB5.out x hx).2.2.2.2.1⟩);have hB7:=hst7.kp.blk HB6.out (fun e=>by have:=(HFB5.out _ e).1;omega);have hH7:=hst7.kp.blk HH6.out (fun e=>(HFB5.out _ e).2.2.2.2.2 rfl);have hF7:∀x,F7 x→w.heap.size+2≤x∧x≠sl∧x≠rl∧x≠ra∧x≠rb:=by
   intro x hx;rcases hst7.sub x hx with e | e
   ·have:=HFB5.out x e;exact ⟨this.1,this.2.1,this.2.2.1,this.2.2.2.1,this.2.2.2.2.1⟩
   ·have l1:=heap_lt HR6.out.ss;have l2:=heap_lt HR6.out.grl;have l3:=heap_lt HR6.out.gra;have l4:=heap_lt HR6.out.grb;have l5:=heap_lt HB6.out;omega
  have hB7':=hB7;unfold bltC at hB7';clear o0 p0 o1 p1 o2 p2 o3 p3 o4 p4 o5 p5;obtain ⟨o0,p0,o1,p1,o2,p2,o3,p3,o4,p4,o5,p5⟩:=cells6 hB7';obtain ⟨e0,_,e1,_,e2,_,e3,_⟩:=cells4 hH7;have HR7:=hid hr7;have HB7:=hid hB7;have HBK7:=hid hbk7;have HF7:=hid hF7;have HRB:=hid (And.intro hRB hLB);clear hr7 hB7 hB7' hH7 hbk7 hst7 hF7 hRB hLB;go_wp2_with fail;have hk8:Kp (fun x=>x=w.heap.size+1) w7 (((w7.setCell ⟨w.heap.size+1,2,none⟩ (.int .u64 g0)).setCell ⟨w.heap.size+1,3,none⟩ (.int .u64 c0)).setCell ⟨w.heap.size+1,4,none⟩ (.int .i64 RB.2)):=((Kp.setCell (F:=fun x=>x=w.heap.size+1) (Kp.refl _ w7) (p:=⟨w.heap.size+1,2,none⟩) rfl _).setCell (p:=⟨w.heap.size+1,3,none⟩) rfl _).setCell (p:=⟨w.heap.size+1,4,none⟩) rfl _;have hB8:=heap_setCell_same _ (w.heap.size+1) 4 _ 82 (.int .i64 RB.2) (heap_setCell_same _ (w.heap.size+1) 3 _ 82 (.int .u64 c0) (heap_setCell_same w7 (w.heap.size+1) 2 _ 82 (.int .u64 g0) HB7.out));generalize ((w7.setCell ⟨w.heap.size+1,2,none⟩ (.int .u64 g0)).setCell ⟨w.heap.size+1,3,none⟩ (.int .u64 c0)).setCell ⟨w.heap.size+1,4,none⟩ (.int .i64 RB.2)=w8 at *;have hB8':w8.heap[w.heap.size+1]?=some (.cells (bltV sl rl g0 c0 RB.2 pb) 82 (0,0)):=hB8;unfold bltV at hB8';have hk9:=rset6_kp (F:=fun x=>x=w.heap.size+1) (Kp.refl _ w8) rfl (.pointer (some ⟨sl,0,none⟩)) (.pointer (some ⟨rl,0,none⟩)) (.int .u64 g0) (.int .u64 c0) (.int .i64 RB.2) (.pointer (some ⟨pb,0,none⟩));have hr9:=(HR7.out.set hk8).set hk9;have hnb:∀x,F7 x→ ¬x=w.heap.size+1:=fun x hx e=>by have:=(HF7.out x hx).1;omega
  refine bodyPost_ret (results_row2 rfl _ _ _ _ _ _ _ rfl (rset6 hB8') Tryz.underlying82 rfl (by kernel_rfl)) rfl ?_;refine ⟨sl,rl,ra,rb,pb,F7,j+j6,?_,?_,?_,HF7.out,?_⟩
  ·rw [HRB.out.1];rfl
  ·rw [HKK.out.2.1,HKK.out.1,←Nat.add_assoc];exact hr9
  ·rw [HRB.out.1,HRB.out.2];exact (HBK7.out.stay hk8 hnb).stay hk9 hnb
  ·have:=HJ.out;have:=HJ6.out;have:=HKK.out;omega
theorem elast_any (B sl rl c0 m:Nat)(g0:Int)(pb:Value)(w:World)(h:w.heap[B]?=some (.cells (bltC sl rl g0 (c0:Int) (m:Int) pb) 82 (0,0)))(hc:c0<1000000000)(hm:m<1000000000):Calls Tryz.prog 26 #[.pointer (some ⟨B,0,none⟩)] w fun e w'=> ∃q,e = .returned (.int .u64 ((c0+m:Nat):Int))∧w'=w.drewN q:=by
 unfold bltC at h;obtain ⟨o0,_,o1,_,o2,_,o3,_,o4,_,o5,_⟩:=cells6 h;have W1:IntKind.u64.wrap (m:Int)=(m:Int):=by rw [IntKind.wrap_u64];omega
 have W2:IntKind.u64.wrap ((c0:Int)+(m:Int))=((c0+m:Nat):Int):=by rw [IntKind.wrap_u64];omega
 clear h;go_enter Tryz.func26,Tryz.ntmps26;go_wp2_with fail;go_quiet (fail)
 go_wp2_with fail;go_ret;exact ⟨_,rfl,rfl⟩
end
end Go.Proofs.YtdjiopacieadpaaGreatDoor
