/- TopNear: part Pbi: EgC EgD ImB. -/
import Derived.Test.YtdjiopacieadpaaGreatDoorPbh
set_option linter.unusedVariables false
set_option linter.unusedSimpArgs false
set_option maxRecDepth 8000
set_option maxHeartbeats 8000000
namespace Go.Proofs.YtdjiopacieadpaaGreatDoor
section
open Go.RowKit BookPlain FlatPlain
theorem Eg.bookKp {w w':World}{P:Ep}{S:Egs}{m:Em}{t:Nat}(h:Eg w P S m t)(hk:Kp m.Fb w w')(hb:Bkk w' P.pb m.Fb (2400+2*t) S.b):Eg w' P S m t∧Step (EF P m) (EF P m) w w':=
 h.book rfl rfl rfl rfl rfl rfl rfl (step_same hk h.lt.2.1) hb h.pl
theorem eask_any (P:Ep)(S:Egs)(m:Em)(t:Nat)(q:Rq)(w:World)(h:Eg w P S m t)(hq:OkRq q)(hk:isAsk q.k):Calls Tryz.prog 75 #[.pointer (some ⟨P.e,0,none⟩),.agg (rqC q.k q.tag q.id q.seat q.ttl)] w (EDo w P m t (S,[answerQ S.b q])):=by
 have HAN:=hid (fun W' (hb:Below w.heap.size w W')=>canswer_any P.pb m.Fb (2400+2*t) S.b q W' (h.bk.new hb) h.pl.so hq hk);unfold rqC at HAN ⊢;obtain ⟨W0,hW0⟩:∃W,w.alloc (.cells #[.int .i64 q.k,.int .u32 q.tag,.int .u32 q.id,.int .i64 q.seat,.int .i64 q.ttl] 48)=W:=⟨_,rfl⟩;have N:=new1 w (.cells #[.int .i64 q.k,.int .u32 q.tag,.int .u32 q.id,.int .i64 q.seat,.int .i64 q.ttl] 48);rw [hW0] at N;have HE0:=hid (h.new N.2.2);have HB0:=hid N.2.2;have HQ0:=hid N.1;have HFL:=hid h.bk.flt;have HLT:Hid (w.heap.size<W0.heap.size):=hid (by omega);have HH0:Hid (EgH W0 P m.wv):=hid HE0.out.en.hd;have HST:Hid (∀w',Step (EF P m) (EF P m) W0.drew w'→Step (EF P m) (EF P m) w w'):=hid (fun w' hs=>(Step.new HB0.out.drew h.elt).trans hs);clear N h hq hk;go_enter Tryz.func75,Tryz.ntmps75;go_wp2_with fail;refine wp_region_held_drew (S:=fun w'=>EgH w' P m.wv∧w'.heap[w.heap.size]?=some (.cells #[.int .i64 q.k,.int .u32 q.tag,.int .u32 q.id,.int .i64 q.seat,.int .i64 q.ttl] 48 (0,0))) (by kernel_rfl) (⟨HH0.out,HQ0.out⟩) (fun hHeld=>?_);refine tkm 5 [(0,8),(1,9),(2,10),(3,11),(4,12)] (by kernel_rfl) (fun _ _ _ _ _ h=>h) (by assumption) ?_;iterate 5
  refine ysC (v:=?_) rfl rfl (fun w9 hS9=>?_) ?_;rotate_left
  ·obtain ⟨a0,_,a1,_,a2,_,a3,_,a4,_,a5,_,a6,_⟩:=cells7 hS9.1;obtain ⟨q0,_,q1,_,q2,_,q3,_,q4,_⟩:=cells5 hS9.2;go_simp;try with_reducible rfl
  simp only [Act.put,List.setIfInBounds_toArray,List.set_cons_zero,List.set_cons_succ]
 refine ysN ?_;refine rd2 5 9 (by kernel_rfl) rfl rfl (fun K9 hK9=>?_) (fun K9 hK9=>?_)
 ·go_simp;refine (HAN.out _ (HB0.out.drew)).mono ?_;rintro e w4 ⟨rfl,hB4,hk4⟩;unfold rpC;have hE4:=(HE0.out.new ((Below.refl _ W0).drew)).bookKp hk4 hB4;go_simp;refine hK9.out _ _ (⟨hE4.1.en.hd,hk4.blk HQ0.out (fun e=>by have:=HFL.out _ e;omega)⟩) (fun hHeld=>?_);clear hK9 K9;refine tkm 3 [(6,7),(7,14),(8,15)] (by kernel_rfl) (fun _ _ _ _ _ h=>h) (by assumption) ?_;iterate 3
   refine ysC (v:=?_) rfl rfl (fun w9 hS9=>?_) ?_;rotate_left
   ·obtain ⟨a0,_,a1,_,a2,_,a3,_,a4,_,a5,_,a6,_⟩:=cells7 hS9.1;obtain ⟨q0,_,q1,_,q2,_,q3,_,q4,_⟩:=cells5 hS9.2;go_simp;try with_reducible rfl
   simp only [Act.put,List.setIfInBounds_toArray,List.set_cons_zero,List.set_cons_succ]
  refine ysN ?_;refine rd1 9 (by kernel_rfl) rfl (fun K9 hK9=>?_);have N5:=new1 w4 (.cells #[.int .u32 0,.int .i64 0,.int .i64 0,.int .u32 0,.int .i64 0,.int .i64 0,.int .i64 0] 50);obtain ⟨A,hA⟩:∃A,w4.heap.size=A:=⟨_,rfl⟩;obtain ⟨W5,hW5⟩:∃W,w4.alloc (.cells #[.int .u32 0,.int .i64 0,.int .i64 0,.int .u32 0,.int .i64 0,.int .i64 0,.int .i64 0] 50)=W:=⟨_,rfl⟩;rw [hW5] at N5;have hE5:=And.intro (hE4.1.new N5.2.2) (hE4.2.below N5.2.2);have hs1:EgH W5 P m.wv:=Bl.blk N5.2.2 hHeld.1;have hs2:=Bl.blk N5.2.2 hHeld.2;go_simp;rw [hA] at N5;have hzA:=N5.1;have hA0:W0.heap.size≤A:=by have h9:W0.heap.size≤w4.heap.size:=hE4.2.kp.size;omega
  have hlA:w.heap.size<A:=by have:=HLT.out;omega
  have hAe:¬P.e=A:=fun e=>by have:=heap_lt hHeld.1;omega
  have hAq:¬w.heap.size=A:=by omega
  have hAE:∀x,EF P m x→ ¬x=A:=fun x hx e=>by have:=hE4.1.elt x hx;omega
  have hAS:∀x,Gs P x→ ¬x=A:=fun x hx e=>by have:=hE4.1.lt.2.2.2 x hx;omega
  refine hK9.out _ _ (⟨hs1,hs2⟩) (fun hHeld=>?_);clear hK9 K9;clear hs1 hs2 N5 hW5 hE4 hB4 hk4;refine rd1 10 (by kernel_rfl) rfl (fun K9 hK9=>?_);obtain ⟨z0,y0,z1,y1,z2,y2,z3,y3,z4,y4,z5,y5,z6,y6⟩:=cells7 hzA;go_simp;have k7:=rset7_kp (F:=fun x=>x=A) (Kp.refl _ W5) rfl (.int .u32 ((answerQ S.b q).tag : Int)) (.int .i64 ((answerQ S.b q).k : Int)) (.int .i64 ((answerQ S.b q).err : Int)) (.int .u32 ((answerQ S.b q).id : Int)) (.int .i64 ((answerQ S.b q).seat : Int)) (.int .i64 ((answerQ S.b q).til : Int)) (.int .i64 ((answerQ S.b q).cnt : Int));have hr6:=rset7 (x0:= .int .u32 ((answerQ S.b q).tag : Int)) (x1:= .int .i64 ((answerQ S.b q).k : Int)) (x2:= .int .i64 ((answerQ S.b q).err : Int)) (x3:= .int .u32 ((answerQ S.b q).id : Int)) (x4:= .int .i64 ((answerQ S.b q).seat : Int)) (x5:= .int .i64 ((answerQ S.b q).til : Int)) (x6:= .int .i64 ((answerQ S.b q).cnt : Int)) hzA;have hs1:=k7.blk hHeld.1 hAe;have hs2:=k7.blk hHeld.2 hAq;have hE6:=And.intro (hE5.1.stay k7 hAE (fun x hx e=>by have:=hE5.1.lt.2.2.2 x hx;exact hAS x hx e)) (Step.mk (hE5.2.kp.then k7 (fun x e=>Or.inr (by have e2:x=A:=e;have e9:W0.drew.heap.size=W0.heap.size:=rfl;omega))) hE5.2.sub (fun x hx=>by have:=hE5.2.lt x hx;have:=k7.size;omega));generalize (((((((W5.setCell ⟨A,0,none⟩ (.int .u32 ((answerQ S.b q).tag : Int))).setCell ⟨A,1,none⟩ (.int .i64 ((answerQ S.b q).k : Int))).setCell ⟨A,2,none⟩ (.int .i64 ((answerQ S.b q).err : Int))).setCell ⟨A,3,none⟩ (.int .u32 ((answerQ S.b q).id : Int))).setCell ⟨A,4,none⟩ (.int .i64 ((answerQ S.b q).seat : Int))).setCell ⟨A,5,none⟩ (.int .i64 ((answerQ S.b q).til : Int))).setCell ⟨A,6,none⟩ (.int .i64 ((answerQ S.b q).cnt : Int)))=W6 at *;refine hK9.out _ _ (⟨hs1,hs2⟩) (fun hHeld=>?_);clear hK9 K9;clear z0 y0 z1 y1 z2 y2 z3 y3 z4 y4 z5 y5 z6 y6 hs1 hs2 k7 hzA hE5 hAe hAq hAE hAS;refine tkm 1 [(11,6)] (by kernel_rfl) (fun _ _ _ _ _ h=>h) (by assumption) ?_;refine ysC (v:=?_) rfl rfl (fun w9 hS9=>?_) ?_;rotate_left
  ·obtain ⟨a0,_,a1,_,a2,_,a3,_,a4,_,a5,_,a6,_⟩:=cells7 hS9.1;obtain ⟨q0,_,q1,_,q2,_,q3,_,q4,_⟩:=cells5 hS9.2;go_simp;try with_reducible rfl
  simp only [Act.put,List.setIfInBounds_toArray,List.set_cons_zero,List.set_cons_succ];refine ysN ?_;refine wpAnyH_done (by kernel_rfl) ?_ _;have HR6:=hid hr6;have HE6:=hid hE6;obtain ⟨r0,_,r1,_,r2,_,r3,_,r4,_,r5,_,r6,_⟩:=cells7 hr6;clear hr6 hE6;go_wp2_with fail;go_ret;have N7:=new1 W6 (.cells #[.int .u32 ((answerQ S.b q).tag : Int),.int .i64 ((answerQ S.b q).k : Int),.int .i64 ((answerQ S.b q).err : Int),.int .u32 ((answerQ S.b q).id : Int),.int .i64 ((answerQ S.b q).seat : Int),.int .i64 ((answerQ S.b q).til : Int),.int .i64 ((answerQ S.b q).cnt : Int)] 50);exact ⟨_,rfl,m,(by simpa using own_row7 (r:=answerQ S.b q) (base:=0) N7.1 (Nat.zero_le _)),HE6.out.1.new N7.2.2,HST.out _ (HE6.out.2.below N7.2.2)⟩
 ·have N5:=new1 W0.drew (.cells #[.int .u32 0,.int .i64 0,.int .i64 0,.int .u32 0,.int .i64 0,.int .i64 0,.int .i64 0] 50);obtain ⟨A,hA⟩:∃A,W0.heap.size=A:=⟨_,rfl⟩;obtain ⟨W4,hW4⟩:∃W,W0.drew.alloc (.cells #[.int .u32 0,.int .i64 0,.int .i64 0,.int .u32 0,.int .i64 0,.int .i64 0,.int .i64 0] 50)=W:=⟨_,rfl⟩;rw [hW4] at N5;have hb4:Below w.heap.size w W4:=HB0.out.drew.trans (N5.2.2.mono HB0.out.drew.size);have hb04:Below W0.heap.size W0 W4:=(Below.refl _ W0).drew.trans N5.2.2;have hs1:EgH W4 P m.wv:=Bl.blk N5.2.2 hHeld.1;have hs2:=Bl.blk N5.2.2 hHeld.2;go_simp;have HNN0:=hid N5.2.2;rw [show W0.drew.heap.size=A from hA] at N5;have HZA:=hid N5.1;have hA0:W0.heap.size≤A:=by omega
  have hlA:w.heap.size<A:=by have:=HLT.out;omega
  have HNN:=HNN0;have HA4:=hid (HE0.out.new hb04);have HBB4:=hid hb4;refine hK9.out _ _ (⟨hs1,hs2⟩) (fun hHeld=>?_);clear hK9 K9;clear hs1 hs2 N5 hW4 hb4 hb04;refine rd1 5 (by kernel_rfl) rfl (fun K9 hK9=>?_);go_simp;refine (HAN.out _ HBB4.out).mono ?_;rintro e W5 ⟨rfl,hB4,hk4⟩;unfold rpC;have hE5':=HA4.out.bookKp hk4 hB4;have hzA:=hk4.blk HZA.out (fun e=>by have:=HFL.out _ e;omega);have hE5:Eg W5 P S m t∧Step (EF P m) (EF P m) W0.drew W5:=⟨hE5'.1,⟨(Kp.of_new HNN.out).trans hE5'.2.kp,fun x hx=>Or.inl hx,hE5'.2.lt⟩⟩;have hAe:¬P.e=A:=fun e=>by have:=heap_lt HH0.out;omega
  have hAq:¬w.heap.size=A:=by omega
  have hAE:∀x,EF P m x→ ¬x=A:=fun x hx e=>by have:=HE0.out.elt x hx;omega
  have hAS:∀x,Gs P x→ ¬x=A:=fun x hx e=>by have:=HE0.out.lt.2.2.2 x hx;omega
  have hs1:=hE5'.1.en.hd;have hs2:=hk4.blk hHeld.2 (fun e=>by have:=HFL.out _ e;omega);go_simp;refine hK9.out _ _ (⟨hs1,hs2⟩) (fun hHeld=>?_);clear hK9 K9;clear hs1 hs2 hB4 hk4 hE5';refine tkm 3 [(6,7),(7,14),(8,15)] (by kernel_rfl) (fun _ _ _ _ _ h=>h) (by assumption) ?_;iterate 3
   refine ysC (v:=?_) rfl rfl (fun w9 hS9=>?_) ?_;rotate_left
   ·obtain ⟨a0,_,a1,_,a2,_,a3,_,a4,_,a5,_,a6,_⟩:=cells7 hS9.1;obtain ⟨q0,_,q1,_,q2,_,q3,_,q4,_⟩:=cells5 hS9.2;go_simp;try with_reducible rfl
   simp only [Act.put,List.setIfInBounds_toArray,List.set_cons_zero,List.set_cons_succ]
  refine ysN ?_;refine rd1 10 (by kernel_rfl) rfl (fun K9 hK9=>?_);obtain ⟨z0,y0,z1,y1,z2,y2,z3,y3,z4,y4,z5,y5,z6,y6⟩:=cells7 hzA;go_simp;have k7:=rset7_kp (F:=fun x=>x=A) (Kp.refl _ W5) rfl (.int .u32 ((answerQ S.b q).tag : Int)) (.int .i64 ((answerQ S.b q).k : Int)) (.int .i64 ((answerQ S.b q).err : Int)) (.int .u32 ((answerQ S.b q).id : Int)) (.int .i64 ((answerQ S.b q).seat : Int)) (.int .i64 ((answerQ S.b q).til : Int)) (.int .i64 ((answerQ S.b q).cnt : Int));have hr6:=rset7 (x0:= .int .u32 ((answerQ S.b q).tag : Int)) (x1:= .int .i64 ((answerQ S.b q).k : Int)) (x2:= .int .i64 ((answerQ S.b q).err : Int)) (x3:= .int .u32 ((answerQ S.b q).id : Int)) (x4:= .int .i64 ((answerQ S.b q).seat : Int)) (x5:= .int .i64 ((answerQ S.b q).til : Int)) (x6:= .int .i64 ((answerQ S.b q).cnt : Int)) hzA;have hs1:=k7.blk hHeld.1 hAe;have hs2:=k7.blk hHeld.2 hAq;have hE6:=And.intro (hE5.1.stay k7 hAE (fun x hx e=>by have:=hE5.1.lt.2.2.2 x hx;exact hAS x hx e)) (Step.mk (hE5.2.kp.then k7 (fun x e=>Or.inr (by have e2:x=A:=e;have e9:W0.drew.heap.size=W0.heap.size:=rfl;omega))) hE5.2.sub (fun x hx=>by have:=hE5.2.lt x hx;have:=k7.size;omega));generalize (((((((W5.setCell ⟨A,0,none⟩ (.int .u32 ((answerQ S.b q).tag : Int))).setCell ⟨A,1,none⟩ (.int .i64 ((answerQ S.b q).k : Int))).setCell ⟨A,2,none⟩ (.int .i64 ((answerQ S.b q).err : Int))).setCell ⟨A,3,none⟩ (.int .u32 ((answerQ S.b q).id : Int))).setCell ⟨A,4,none⟩ (.int .i64 ((answerQ S.b q).seat : Int))).setCell ⟨A,5,none⟩ (.int .i64 ((answerQ S.b q).til : Int))).setCell ⟨A,6,none⟩ (.int .i64 ((answerQ S.b q).cnt : Int)))=W6 at *;refine hK9.out _ _ (⟨hs1,hs2⟩) (fun hHeld=>?_);clear hK9 K9;clear z0 y0 z1 y1 z2 y2 z3 y3 z4 y4 z5 y5 z6 y6 hs1 hs2 k7 hzA hE5 hAe hAq hAE hAS;refine tkm 1 [(11,6)] (by kernel_rfl) (fun _ _ _ _ _ h=>h) (by assumption) ?_;refine ysC (v:=?_) rfl rfl (fun w9 hS9=>?_) ?_;rotate_left
  ·obtain ⟨a0,_,a1,_,a2,_,a3,_,a4,_,a5,_,a6,_⟩:=cells7 hS9.1;obtain ⟨q0,_,q1,_,q2,_,q3,_,q4,_⟩:=cells5 hS9.2;go_simp;try with_reducible rfl
  simp only [Act.put,List.setIfInBounds_toArray,List.set_cons_zero,List.set_cons_succ];refine ysN ?_;refine wpAnyH_done (by kernel_rfl) ?_ _;have HR6:=hid hr6;have HE6:=hid hE6;obtain ⟨r0,_,r1,_,r2,_,r3,_,r4,_,r5,_,r6,_⟩:=cells7 hr6;clear hr6 hE6;go_wp2_with fail;go_ret;have N7:=new1 W6 (.cells #[.int .u32 ((answerQ S.b q).tag : Int),.int .i64 ((answerQ S.b q).k : Int),.int .i64 ((answerQ S.b q).err : Int),.int .u32 ((answerQ S.b q).id : Int),.int .i64 ((answerQ S.b q).seat : Int),.int .i64 ((answerQ S.b q).til : Int),.int .i64 ((answerQ S.b q).cnt : Int)] 50);exact ⟨_,rfl,m,(by simpa using own_row7 (r:=answerQ S.b q) (base:=0) N7.1 (Nat.zero_le _)),HE6.out.1.new N7.2.2,HST.out _ (HE6.out.2.below N7.2.2)⟩
theorem Dsk.log {D D':List Nat}{z k s c g:Nat}{oa ob:Option SlotPlain.Sl}{G C:Nat}(h:Dsk D z k s c g oa ob G C)(hk:2≤k)(he:∀p m,p+m≤2*k*z→cut D' p m=cut D p m):Dsk D' z k s c g oa ob G C:=by
 have e:2*k*z=k*z+k*z:=by rw [Nat.mul_assoc,Nat.two_mul]
 exact ⟨h.sa.move hk (fun p m _ h2=>he p m (by omega)),h.sb.move hk (fun p m _ h2=>he p m (by omega)),h.ia,h.ib⟩
theorem flushP {P:Ep}{S:Egs}{c c' t:Nat}(h:EgP P S c t)(hD:S.D.length=P.n*P.z)(hf:S.L.beg+S.L.B.length≤(P.n-2*P.k)*P.z)(hc:c'≤c+40000)(ht:t<400):EgP P (flushE P.z P.k S) c' (t+1):=by
 have h1:=h.kn;have e:P.n*P.z=2*P.k*P.z+(P.n-2*P.k)*P.z:=by rw [←Nat.add_mul];congr 1;omega
 have h2:Dsk (patch S.D (2*P.k*P.z+S.L.beg) S.L.B) P.z P.k S.b.s S.b.c S.b.g S.oa S.ob (100+t) (10000*t+100000):=h.sl.log h.k2 (fun p m hp=>cut_patch_other (by rw [hD,e];omega) (Or.inl (by omega)));have h3:Dsk (patch S.D (2*P.k*P.z+S.L.beg) S.L.B) P.z P.k S.b.s S.b.c S.b.g S.oa S.ob (100+(t+1)) (10000*(t+1)+100000):=h2.mono (Nat.add_le_add_left (Nat.le_succ t) _) (by omega);refine ⟨h.so,?_,h.k2,h.kn,h.fi,Nat.le_succ_of_le h.lw,h.ok,?_,?_,by omega⟩
 ·exact h3
 ·have:=h.cb;omega
 ·show S.L.last≤_;have:=h.lb;omega
theorem Eg.nows {w w':World}{P:Ep}{S:Egs}{m:Em}{t:Nat}(h:Eg w P S m t)(hk:Kp (fun x=>x=P.e∨m.wv.ownBlock=some x) w w')(hd:EgH w' P (.slice none 0 0)):Eg w' P (noWs S) ⟨m.F,m.v,m.Fb,.slice none 0 0,m.c⟩ t∧Step (EF P m) (EF P ⟨m.F,m.v,m.Fb,.slice none 0 0,m.c⟩) w w':=by
 have l:=h.lt;refine h.eng (S':=noWs S) (m':=⟨m.F,m.v,m.Fb,.slice none 0 0,m.c⟩) (Nat.le_refl _) rfl rfl rfl rfl rfl rfl rfl ⟨hk,fun x hx=>?_,fun x hx=>?_⟩ hd (World.ownsRow_nil _ _ _ _) (fun e=>by cases e) ⟨h.pl.so,h.pl.sl,h.pl.k2,h.pl.kn,h.pl.fi,Nat.zero_le _,(fun r hr=>by cases hr),h.pl.cb,h.pl.lb,h.pl.tb⟩
 ·rcases hx with e | e
  ·exact Or.inl (Or.inl e)
  ·cases e
 ·rcases hx with e | e
  ·have:=l.2.2.1 x (Or.inl e);have:=hk.size;omega
  ·cases e
def EFl (w:World)(P:Ep)(S:Egs)(m:Em)(t:Nat)(e:Ending)(w':World):Prop:=
 e = .returned (.int .i64 0)∧ ∃m',Eg w' P (flushE P.z P.k S) m' (t+1)∧m'.wv=m.wv∧Step (Gd P m) (Gd P m') w w'∧Step (EF P m) (EF P m') w w'
theorem eflog_any (P:Ep)(S:Egs)(m:Em)(t:Nat)(w:World)(h:Eg w P S m t)(ht:t<400):Calls Tryz.prog 135 #[.pointer (some ⟨P.l,0,none⟩)] w (EFl w P S m t):=by
 have hcb:=h.pl.cb;have hkn:=h.pl.kn;refine (lflush_any P.l P.rl P.p P.z (2*P.k) (P.n-2*P.k) P.n S.D m.F m.c S.L m.v w h.dv.wl h.dv.pw h.dv.aw (by omega) (by omega)).mono ?_;rintro e w' ⟨rfl,F',c',v',h1,h2,h3,h4,h5⟩;have hst:Step (Gd P m) (Gd P ⟨F',v',m.Fb,m.wv,c'⟩) w w':=h5;obtain ⟨g1,g2⟩:=h.dev (S':=flushE P.z P.k S) (m':=⟨F',v',m.Fb,m.wv,c'⟩) (t':=t+1) (Nat.le_succ _) rfl rfl rfl rfl hst h2 h1 h4 (flushP h.pl h.dv.pw.len h.dv.wl.fit h3 ht);exact ⟨rfl,_,g1,rfl,hst,g2⟩
theorem own_inc {w:World}{base:Nat}{v:Value}{rs:List Rp}{n:Nat}(h:w.ownsRow base 50 7 v n (rs.flatMap rpL))(hn:n=rs.length):w.ownsRow base 50 7 v rs.length (rs.flatMap rpL):=by rw [←hn];exact h
theorem eflush_any (P:Ep)(S:Egs)(m:Em)(t:Nat)(q:Rq)(w:World)(h:Eg w P S m t)(ht:t<400):Calls Tryz.prog 76 #[.pointer (some ⟨P.e,0,none⟩),.agg (rqC q.k q.tag q.id q.seat q.ttl)] w (EDo w P m (t+1) (noWs (flushE P.z P.k S),S.ws++[cntP q S.ws.length])):=by
 have HFL:=hid (fun W' (hb:Below w.heap.size w W')=>eflog_any P S m t W' (h.new hb) ht);have HCN:=hid (ecounted_any P q);unfold rqC at HCN ⊢;obtain ⟨W0,hW0⟩:∃W,w.alloc (.cells #[.int .i64 q.k,.int .u32 q.tag,.int .u32 q.id,.int .i64 q.seat,.int .i64 q.ttl] 48)=W:=⟨_,rfl⟩;have N:=new1 w (.cells #[.int .i64 q.k,.int .u32 q.tag,.int .u32 q.id,.int .i64 q.seat,.int .i64 q.ttl] 48);rw [hW0] at N;have hE0:=h.new N.2.2;have HE0:=hid hE0;have HN:=hid N;have HH:=hid h;obtain ⟨a0,_,a1,_,a2,_,a3,_,a4,_,a5,_,a6,_⟩:=cells7 hE0.en.hd;have HLT:=hid h.elt;clear hE0 N h;go_enter Tryz.func76,Tryz.ntmps76;go_wp2_with fail;refine (HFL.out _ HN.out.2.2).mono ?_;rintro e w1 ⟨rfl,m1,hE1,hwv,hs1,hs2⟩;have hq1:=hs1.kp.blk HN.out.1 (fun e=>by have:=HLT.out w.heap.size (Or.inl e);omega);obtain ⟨q0,_,q1,_,q2,_,q3,_,q4,_⟩:=cells5 hq1;have HC1:=hid (HCN.out m1.wv S.ws w1 hE1.en.hd hE1.en.ws hE1.en.we (by have h9:S.ws.length≤t+1:=hE1.pl.lw;omega));have HE1:=hid hE1;have HS:=hid ((Step.new HN.out.2.2 HLT.out).trans hs2);clear hE1 hwv hs1 hs2 hq1 a0 a1 a2 a3 a4 a5 a6;go_wp2_with fail;refine HC1.out.mono ?_;rintro e w2 ⟨v2,rfl,ho,hd,hk⟩;have hnw:=HE1.out.nows hk hd;have HNW:=hid hnw;have HO:=hid ho;clear hnw ho hd hk;go_wp2_with fail;go_ret;exact ⟨_,rfl,_,own_inc HO.out (by simp),HNW.out.1,HS.out.trans HNW.out.2⟩
end
section
open Go.RowKit BookPlain
attribute [local go_sem] Oper.semAt_some
def IPut (w:World)(b:Bk)(e:Ending)(w':World):Prop:= ∃v,e = .returned (.tuple #[v,.int .i64 0])∧w'.ownsRow w.heap.size 5 1 v (imgF b).length (Lb (imgF b))∧Below w.heap.size w w'
theorem Wr.turn {W W':World}{p:Nat}{l:List Nat}(h:Wr W p l){row:Option Nat}(hg:W.grownBy W' row)(hr:∀r,row=some r→ ∃o:Obj,W.heap[r]?=some o∧o.isCells=false):Wr W' p l:=by
 obtain ⟨v,h1,h2⟩:=h;refine ⟨v,?_,own_turn h2 hg hr⟩;rw [hg.block p (heap_lt h1) (fun e=>?_)]
 ·exact h1
 ·obtain ⟨o,ho,hc⟩:=hr p e.symm;rw [h1] at ho;cases ho;cases hc
theorem keeps_kp {F:Nat→Prop}{B:Nat}{W W':World}(h:Kp F W W')(hF:∀k,F k→k<B):KeepsFrom B W W':=
 ⟨h.size,fun k o hk ho _=>by rw [h.block k (heap_lt ho) (fun e=>by have:=hF k e;omega)];exact ho⟩
set_option maxRecDepth 100000 in
theorem iput_any (p:Nat)(F:Nat→Prop)(K:Nat)(b:Bk)(w:World)(h:Bkk w p F K b)(hs:Sound b):Calls Tryz.prog 24 #[.pointer (some ⟨p,0,none⟩)] w (IPut w b):=by
 have HFL:=hid h.flt;have HS:=hid hs;have HB:=hid h;have HCO:=hid (bcopy_any p F K b w h hs);have hpl:=h.flt p h.own;have b1:=hs.hs.2;have b2:=hs.hc.2;have b3:=hs.hn.2;have b4:=hs.hk;have b5:=hs.few;have hM:M=1099511627776:=rfl;have g1:IntKind.u16.wrap (b.s:Int)=(b.s:Int):=by rw [IntKind.wrap_u16];omega
 have g2:IntKind.u32.wrap (b.c:Int)=(b.c:Int):=by rw [IntKind.wrap_u32];omega
 have g3:IntKind.u64.wrap (b.clock:Int)=(b.clock:Int):=by rw [IntKind.wrap_u64];omega
 have g4:IntKind.u16.wrap (nT b.l:Int)=(nT b.l:Int):=by rw [IntKind.wrap_u16];omega
 have HN:=hid (And.intro (show b.s<65536 by omega) (And.intro (show b.c<4294967296 by omega) (And.intro (show b.next<4294967296 by omega) (And.intro (show b.clock<18446744073709551616 by omega) (show nT b.l<65536 by omega)))));clear h hs b1 b2 b3 b4 b5 hM;refine callsIn_wide (n:=5).1 (callsIn_of_wp_marks Tryz.func24 rfl trivial ?_ rfl);simp only [Tryz.ntmps24,List.size_toArray,List.length_cons,List.length_nil,Nat.reduceAdd,Nat.reduceSub,Array.replicate_succ,Array.replicate_zero,List.push_toArray,List.append_toArray,List.nil_append,List.cons_append];gi_wp2_with fail
 refine ⟨trivial,CallsIn.mono (wide_in HCO.out) ?_⟩;rintro e w1 ⟨p1,F1,rfl,_,_,hb1⟩;gi_wp2_with fail
 have N2:=new1 w1 (.cells #[.slice none 0 0] 127);have hwr:=Wr.new w1;have hk2:=HB.out.new (hb1.trans (N2.2.2.mono hb1.size));have HSH:=hid (kshape p F K b _ hk2);have HB2:=hid hk2;have HN2:=hid N2;have HWR:=hid hwr;have HB1:=hid hb1;clear N2 hwr hk2 hb1;refine ⟨trivial,CallsIn.mono (wide_in HSH.out) ?_⟩;rintro e w3 ⟨rfl,hb3⟩;have N4:=new1 w3 (.cells #[.int .i64 b.s,.int .i64 b.c,.int .i64 b.g] 23);have hI:Ipt w p F K b w1.heap.size w3.heap.size [] (w3.alloc (.cells #[.int .i64 b.s,.int .i64 b.c,.int .i64 b.g] 23)):=
  ⟨(HWR.out.below hb3 (Nat.le_refl _)).below N4.2.2 (Nat.le_refl _),(HB2.out.new hb3).new N4.2.2,((HB1.out.trans (HN2.out.2.2.mono HB1.out.size)).trans (hb3.mono (Nat.le_trans HB1.out.size HN2.out.2.2.size))).trans (N4.2.2.mono (Nat.le_trans (Nat.le_trans HB1.out.size HN2.out.2.2.size) hb3.size)),⟨HB1.out.size,by have:=hb3.size;have:=HN2.out.2.1;omega⟩,N4.1,by simp⟩
 generalize w1.heap.size=P0 at *;obtain ⟨x0,_,x1,_,x2,_⟩:=cells3 hI.sh;have HI:=hid hI;have HC:=hid (ipt_two hI HFL.out b.s HN.out.1 (by simp));clear N4 hI hb3 HB2 HN2 HWR;gi_wp2_with fail
 refine ⟨trivial,CallsIn.mono (wide_in HC.out) ?_⟩;clear HI HC HSH x0 x1 x2;rintro e W1 ⟨rfl,hI,_⟩;obtain ⟨x0,_,x1,_,x2,_⟩:=cells3 hI.sh;have HI:=hid hI;have HC:=hid (ipt_four hI HFL.out b.c HN.out.2.1 (by simp [le_len]));clear hI;gi_wp2_with fail
 refine ⟨trivial,CallsIn.mono (wide_in HC.out) ?_⟩;clear HI HC x0 x1 x2;rintro e W2 ⟨rfl,hI,_⟩;have HK:=hid (knext p F K b W2 hI.bk);have HC:=hid (ipt_four hI HFL.out b.next HN.out.2.2.1 (by simp [le_len]));clear hI;gi_wp2_with fail
 refine ⟨trivial,CallsIn.mono (wide_in HK.out) ?_⟩;rintro e w' ⟨rfl,rfl⟩;gi_wp2_with fail
 refine ⟨trivial,CallsIn.mono (wide_in HC.out) ?_⟩;clear HK HC;rintro e W3 ⟨rfl,hI,_⟩;have HK:=hid (kclock p F K b W3 hI.bk);have HC:=hid (ipt_eight hI HFL.out b.clock HN.out.2.2.2.1 (by simp [le_len]));clear hI;gi_wp2_with fail
 refine ⟨trivial,CallsIn.mono (wide_in HK.out) ?_⟩;rintro e w' ⟨rfl,rfl⟩;gi_wp2_with fail
 refine ⟨trivial,CallsIn.mono (wide_in HC.out) ?_⟩;clear HK HC;rintro e W4 ⟨rfl,hI,_⟩;have HK:=hid (klen p F K b W4 hI.bk);have HC:=hid (ipt_two hI HFL.out (nT b.l) HN.out.2.2.2.2 (by simp [le_len]));clear hI;gi_wp2_with fail
 refine ⟨trivial,CallsIn.mono (wide_in HK.out) ?_⟩;rintro e w' ⟨rfl,rfl⟩;gi_wp2_with fail
 refine ⟨trivial,CallsIn.mono (wide_in HC.out) ?_⟩;clear HK HC;rintro e W5 ⟨rfl,hI,_⟩;have HI:Hid (Ipt w p F K b P0 w3.heap.size (imHead b) W5):=hid hI;have HK:=hid (ball_any p F K b W5 hI.bk);clear hI;gi_wp2_with fail
 refine ⟨trivial,CallsIn.mono (wide_in HK.out) ?_⟩;clear HK;rintro e W6 ⟨A,v,rfl,hA,hAc,hrb,hv,hb6⟩;have hI6:=HI.out.new hb6;gi_wp2_with fail
 have hP6:=hI6.wr.lt;have hPA:P0<W5.heap.size:=HI.out.wr.lt;have hnl:(listB b).length ≤24:=by rw [show (listB b).length = nT b.l from listL_len _];have:=HS.out.few;have:=HS.out.hc;omega
 have hAl:=heap_lt hAc;have HST:=hid (vals_stops (α:={x:Bo // x∈listB b}) (fun x=>x.1) 4 A v (listB b).attach W6 hAc (by rw [List.attach_map_subtype_val];exact hrb) (by rw [List.length_attach];omega));have HV:=hid hv;have HI6:=hid hI6;have HPA:=hid (And.intro hPA (And.intro hA (And.intro hP6 hnl)));clear hAc hrb hv hb6 hI6 hP6 hPA hA hnl;gi_wp2_with fail
 refine range_laid (by omega) (gf:=166) (lb:=#[.pointer (some ⟨A,0,none⟩)]) rfl (enters_of Tryz.func166 (by kernel_rfl) rfl) HST.out Kzs.trans (Kzs.put (by rintro k (rfl | e);exact hAl;exact (HV.out k e).2)) (fun _=>rfl)
  (fun pre W=>Kp (fun x=>x=P0) W6 W∧Wr W P0 (imHead b++pre.flatMap (fun x=>im14 x.1))) ?own ?start
  (fun pre x a1 W=> ∃X,W.heap[X]?=some (Obj.cells #[.int .u32 x.1.1,.int .i64 x.1.2.1,.int .i64 x.1.2.2] 160 (0,0))∧W6.heap.size≤X∧Kp (fun x=>x=P0) W6 W∧Wr W P0 (imHead b++pre.flatMap (fun x=>im14 x.1))∧a1={tmps:=#[.pointer (some ⟨p,0,none⟩),undef,.slice none 0 0,.int .i64 0,.pointer (some ⟨P0,0,none⟩),.pointer (some ⟨w3.heap.size,0,none⟩),.pointer (some ⟨X,0,none⟩),.pointer (some ⟨p,0,none⟩),.pointer (some ⟨p1,0,none⟩),.bool false,.pointer (some ⟨p,0,none⟩),.agg #[.int .i64 b.s,.int .i64 b.c,.int .i64 b.g],.pointer (some ⟨w3.heap.size,0,none⟩),.int .i64 b.s,.int .u16 b.s,.tuple #[],.pointer (some ⟨w3.heap.size,1,none⟩),.int .i64 b.c,.int .u32 b.c,.tuple #[],.pointer (some ⟨p,0,none⟩),.int .u32 b.next,.tuple #[],.pointer (some ⟨p,0,none⟩),.int .i64 b.clock,.int .u64 b.clock,.tuple #[],.pointer (some ⟨p,0,none⟩),.int .i64 (nT b.l:Int),.int .u16 (nT b.l:Int),.tuple #[],.pointer (some ⟨p,0,none⟩),.func (.func 166) #[] #[.pointer (some ⟨A,0,none⟩)],.agg #[.int .u32 x.1.1,.int .i64 x.1.2.1,.int .i64 x.1.2.2],undef,undef,undef,undef,undef,undef,undef,undef,undef,undef,undef,undef],defers:=[]}) ?stay ?assign ?body ?done
 case own=>
  rintro s W W' row ⟨h1,h2⟩ hg hr;exact ⟨h1.grown hg (fun k e=>Or.inr (hr k e).1),h2.turn hg (fun r e=>(hr r e).2)⟩
 case start=>exact ⟨Kp.refl _ _,by simpa using HI6.out.wr⟩
 case stay=>
  rintro pre x a1 W l o o' hl ho hc ⟨X,hX,hX6,hk,hw,rfl⟩;have hXl:X≠l:=fun e=>by rw [e,ho] at hX;cases hX;cases hc
  exact ⟨X,(World.putObj_heap_other hXl).trans hX,hX6,hk.grown (put_grown W l o') (fun k e=>by injection e with e;subst e;exact Or.inr hl),hw.turn (put_grown W l o') (fun r e=>by injection e with e;subst e;exact ⟨o,ho,hc⟩),rfl⟩
 case assign=>
  rintro l pre x W ⟨hk,hw⟩ hlen;dsimp only [boE];gi_wp2
  have N:=new1 W (.cells #[.int .u32 x.1.1,.int .i64 x.1.2.1,.int .i64 x.1.2.2] 160);have hkk:∀k,(k=A∨v.ownBlock=some k)→k<W.heap.size:=fun k e=>Nat.lt_of_lt_of_le (by rcases e with rfl | e;exact hAl;exact (HV.out k e).2) hk.size
  exact ⟨⟨W.heap.size,N.1,hk.size,hk.trans (Kp.of_new N.2.2),hw.below N.2.2 (Nat.le_refl _),rfl⟩,(KeepsOthers.alloc W _).from _,⟨fun k e=>N.2.2.block k (hkk k e),N.2.2.size⟩⟩
 case body=>
  rintro l pre ⟨x,hx⟩ a1 W ⟨X,hX,hX6,hk,hw,rfl⟩ hlen;obtain ⟨_,q2,q3,q4⟩:=listB_seat HS.out.toFine hx;have hb24:=HS.out.hs;have hM:M=1099511627776:=rfl;obtain ⟨xi,xs,xu⟩:=x;dsimp only at q2 q3 q4 hX ⊢;have q5:xi<4294967296∧xu≤M:=by
   rcases q4 with e | ⟨_,e,_,e2⟩
   ·injection e with e _;exact absurd e q3
   ·exact ⟨e,e2⟩
  have h1:IntKind.u16.wrap (xs:Int)=(xs:Int):=by rw [IntKind.wrap_u16];omega
  have h2:IntKind.u64.wrap (xu:Int)=(xu:Int):=by rw [IntKind.wrap_u64];omega
  have HQ:=hid (And.intro (show xs<65536 by omega) (And.intro q5.1 (show xu<18446744073709551616 by omega)));have hfl:(imHead b++pre.flatMap (fun x=>im14 x.1)).length ≤1000:=by
   have e1:∀q:List {x:Bo // x∈listB b},(q.flatMap (fun x=>im14 x.1)).length = q.length*14:=by
    intro q;induction q with
    | nil=>rfl
    | cons y q ih=>simp only [List.flatMap_cons,List.length_append,ih,List.length_cons];simp [im14,le_len];omega
   rw [List.length_append,e1];rw [List.length_attach] at hlen;have:=HPA.out.2.2.2;have e2:(imHead b).length = 20:=by simp [imHead,le_len]
   omega
  generalize hle:imHead b++pre.flatMap (fun x=>im14 x.1)=L0 at *;obtain ⟨x0,_,x1,_,x2,_⟩:=cells3 hX;have hC4:=hid (four_any P0 L0 xi W hw HQ.out.2.1 (by omega));have HX:=hid hX;have HK:=hid hk;have HLE:=hid hle;have HFL:=hid hfl;have HX6:=hid hX6;clear hX hk hw hle hfl q2 q3 q4 q5 hM hb24 hlen hX6;gi_wp2_with fail
  refine ⟨trivial,CallsIn.mono (CallsIn.inRound l (wide_in hC4.out)) ?_⟩;rintro e Wa ⟨rfl,hwa,hka⟩;have hXa:=hka.blk HX.out (by have:=HX6.out;have:=HPA.out.2.2.1;omega);clear x0 x1 x2;obtain ⟨x0,_,x1,_,x2,_⟩:=cells3 hXa;have hC2:=hid (two_any P0 _ xs Wa hwa HQ.out.1 (by rw [List.length_append,le_len];have:=HFL.out;omega));have HKA:=hid hka;have HXA:=hid hXa;clear hwa hka hXa;gi_wp2_with fail
  refine ⟨trivial,CallsIn.mono (CallsIn.inRound l (wide_in hC2.out)) ?_⟩;rintro e Wb ⟨rfl,hwb,hkb⟩;have hXb:=hkb.blk HXA.out (by have:=HX6.out;have:=HPA.out.2.2.1;omega);clear x0 x1 x2;obtain ⟨x0,_,x1,_,x2,_⟩:=cells3 hXb;have hC8:=hid (eight_any P0 _ xu Wb hwb HQ.out.2.2 (by rw [List.length_append,List.length_append,le_len,le_len];have:=HFL.out;omega));have HKB:=hid (HKA.out.trans hkb);clear hwb hkb hXb;gi_wp2_with fail
  refine ⟨trivial,CallsIn.mono (CallsIn.inRound l (wide_in hC8.out)) ?_⟩;rintro e Wc ⟨rfl,hwc,hkc⟩;have hkWc:=HKB.out.trans hkc;have hL:L0++le xi 4++le xs 2++le xu 8=imHead b++(pre++[(⟨(xi,xs,xu),hx⟩:{x:Bo // x∈listB b})]).flatMap (fun x=>im14 x.1):=by
   rw [←HLE.out,List.flatMap_append];simp [im14]
  rw [hL] at hwc;have hfin:KeepsFrom W6.heap.size W Wc∧Kzs (fun k=>k=A∨v.ownBlock=some k) W Wc∧Kp (fun x=>x=P0) W6 Wc∧Wr Wc P0 (imHead b++(pre++[(⟨(xi,xs,xu),hx⟩:{x:Bo // x∈listB b})]).flatMap (fun x=>im14 x.1)):=by
   refine ⟨keeps_kp hkWc (fun k e=>by have e':k=P0:=e;have:=HPA.out.2.2.1;omega),⟨fun k e=>hkWc.block k ?_ ?_,hkWc.size⟩,HK.out.trans hkWc,hwc⟩
   ·exact Nat.lt_of_lt_of_le (by rcases e with rfl | e;exact hAl;exact (HV.out k e).2) HK.out.size
   ·intro e2;have e3:k=P0:=e2;rcases e with rfl | e
    ·have:=HPA.out;omega
    ·have:=(HV.out k e).1;have:=HPA.out.1;omega
  have HFIN:=hid hfin;clear hwc hkc hkWc hfin hL;gi_wp2_with fail
  obtain ⟨u1,u2,u3,u4⟩:=HFIN.out;exact ⟨u1,u2,u3,by simpa using u4⟩
 case done=>
  rintro D xs W hD rfl ⟨hk,hw⟩ hK;have hL:imHead b++(listB b).attach.flatMap (fun x=>im14 x.1)=imgF b:=by
   unfold imgF;congr 1
   have e:(listB b).attach.flatMap (fun x=>im14 x.1)=((listB b).attach.map (fun x=>x.1)).flatMap im14:=by rw [List.flatMap_map]
   rw [e,List.attach_map_subtype_val]
  rw [hL] at hw;have hlen:(imgF b).length ≤10000:=by
   have e1:∀q:List Bo,(q.flatMap im14).length = q.length*14:=by
    intro q;induction q with
    | nil=>rfl
    | cons y q ih=>simp only [List.flatMap_cons,List.length_append,ih,List.length_cons];simp [im14,le_len];omega
   unfold imgF;rw [List.length_append,e1];have:=HPA.out.2.2.2;have e2:(imHead b).length = 20:=by simp [imHead,le_len]
   omega
  have HO:=hid (out_any P0 (imgF b) W hw (by omega));have hbw:Below w.heap.size w W:=HI6.out.bel.trans (hk.below HI6.out.bel.size (fun y e=>by have e':y=P0:=e;have:=HI6.out.ge.1;omega));have HBW:=hid hbw;have HK:=hid hK;clear hk hw hbw hL hlen;gi_wp2_with fail
  refine ⟨trivial,CallsIn.mono (wide_in HO.out) ?_⟩;rintro e W8 ⟨v8,rfl,ho8,hb8⟩;obtain ⟨oa,rn,erv,_,_⟩:=own_form ho8;subst erv;have hK8:W8.heap[D]?=some (.deferred (some [])):=by rw [hb8.block D (heap_lt HK.out)];exact HK.out
  have hown2:=own_mono (ownsRow_putObj ho8 (.deferred none) hK8 rfl) HBW.out.size;have hB2:Below w.heap.size w (W8.putObj D (.deferred none)):=(HBW.out.trans (hb8.mono HBW.out.size)).trans (belowK_b (w:=w) (Nat.le_refl _) W8 D _ _ (by have:=HI6.out.bel.size;omega) hK8 rfl rfl);have HOW:=hid hown2;have HB9:=hid hB2;clear ho8 hb8 hown2 hB2;gi_wp2_with fail
  refine ⟨by simp,.inl ⟨_,_,rfl,run_takeDeferred hK8,?_⟩⟩;exact ⟨.tuple #[.slice oa (imgF b).length rn,.int .i64 0],by simp [results,Tryz.results24,go_sem],_,rfl,HOW.out,HB9.out⟩
end
end Go.Proofs.YtdjiopacieadpaaGreatDoor
