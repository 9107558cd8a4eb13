/- TopNear: part Pbq: RpG TpG TpH TpI TpY. -/
import Derived.Test.YtdjiopacieadpaaGreatDoorPbp
import Derived.Test.YtdjiopacieadpaaGreatDoorCards
import Derived.Test.YtdjiopacieadpaaGreatDoorTie
import Derived.Deep.Slices
import Derived.Deep.Fields
import Derived.ChangeSame
import Derived.SizedLaws
import Derived.Carry
import Derived.ProofKit
import Derived.OpenShut
import Derived.Laws.Cover2
import Derived.Deep.DeepHandedRow
import Derived.Lib.LaidTab
import Derived.LaidSub
set_option linter.unusedVariables false
set_option linter.unusedSimpArgs false
set_option maxRecDepth 8000
set_option maxHeartbeats 8000000
namespace Go.Proofs.YtdjiopacieadpaaGreatDoor
section
open Go.RowKit BookPlain
theorem rbyte_at (r q n:Nat)(l:List Nat)(w:World)(hR:Rd w r q (le n 1++l) 0)(hl:Bs (le n 1++l))(hn:n<256):
 Calls Tryz.prog 32 #[.pointer (some ⟨r,0,none⟩)] w fun o w'=>o = .returned (.int .u8 n)∧Rd w' r q l 0∧Kp (· = q) w w':=by
 have h:=rbyte_in r q _ w hR hl (by rw [List.length_append,le_len];omega);rw [(take_le n 1 l).1,(take_le n 1 l).2,ofLe_le,Nat.mod_eq_of_lt (by omega)] at h;exact h
theorem and51:bits .and .i64 (5:Int) 1=1:=by decide
theorem and52:bits .and .i64 (5:Int) 2=0:=by decide
theorem and54:bits .and .i64 (5:Int) 4=4:=by decide
theorem and58:bits .and .i64 (5:Int) 8=0:=by decide
theorem repget_5 (tag k id til:Nat)(v:Value)(w:World)(h:OkRp ⟨tag,k,0,id,0,til,0⟩)(hm:maskF k 0=5)(hv:Sl w v (Lb (rpF ⟨tag,k,0,id,0,til,0⟩)))(hT:Glb w):
 Calls Tryz.prog 13 #[v] w fun e w'=>e = .returned (.tuple #[.agg (rpC ⟨tag,k,0,id,0,til,0⟩),.int .i64 0])∧Below w.heap.size w w':=by
 have hF:rpF ⟨tag,k,0,id,0,til,0⟩=le tag 4++(le k 1++(le 0 2++(le id 4++(le til 8++[])))):=by
  unfold rpF;dsimp only;rw [if_pos hm];simp
 rw [hF] at hv;have HOK:=hid h;have hk10:k≤10:=h.k;have HCK:=hid (fun W' hT'=>repcheck_any ⟨tag,k,0,id,0,til,0⟩ h W' hT');have HOF:=hid (fun W' hT'=>repof_any k 0 W' hk10 hT');rw [hm] at HOF;have b5:Bs (le til 8++[]):=bs_app (le_bytes _ _) (fun x hx=>by cases hx);have b4:Bs (le id 4++(le til 8++[])):=bs_app (le_bytes _ _) b5;have b3:Bs (le 0 2++(le id 4++(le til 8++[]))):=bs_app (le_bytes _ _) b4;have b2:Bs (le k 1++(le 0 2++(le id 4++(le til 8++[])))):=bs_app (le_bytes _ _) b3;have b1:Bs (le tag 4++(le k 1++(le 0 2++(le id 4++(le til 8++[]))))):=bs_app (le_bytes _ _) b2;have HBS:=hid (And.intro b1 (And.intro b2 (And.intro b3 (And.intro b4 b5))));have HV:=hid hv;have HG:=hid hT;obtain ⟨a,c,rfl,hc,hcm⟩:=Sl_partsB hv;have WT:IntKind.i64.wrap (til:Int)=(til:Int):=by have:=h.til;dsimp only at this;rw [IntKind.wrap_i64];omega
 have WK:IntKind.i64.wrap (k:Int)=(k:Int):=by rw [IntKind.wrap_i64];omega
 have a1:=and51;have a2:=and52;have a4:=and54;have a8:=and58;unfold rpC at *;dsimp only at *;generalize (le tag 4++(le k 1++(le 0 2++(le id 4++(le til 8++[]))))).length = N at *;clear h hm hF b1 b2 b3 b4 b5 hv hT hc hcm;go_enter Tryz.func13,Tryz.ntmps13;go_wp2_with fail;refine at_new1 ?_;intro w0 p0 ns nb;refine (of_any _ _ _ (Sl_below HV.out nb (Nat.le_refl _)) (by simp [le_len])).mono ?_;rintro e w1 ⟨r,q,rfl,hR,hr,hq,hb⟩;have hR0:=Bl.blk hb p0;have hb1:=Bl.trans nb hb;have hrq:r<w1.heap.size∧q<w1.heap.size∧w.heap.size<r∧w.heap.size<q:=by
  have hrl:=heap_lt hR.1;have hql:=hR.2.2.lt;omega
 have HRQ:=hid hrq;have HR0:=hid hR0;have HB:=hid hb1;have HRD:=hid hR;clear p0 ns nb hb hR hR0 hb1 hrq hr hq;go_wp2_with fail;refine (rfour_at r q tag _ _ HRD.out HBS.out.1 HOK.out.tag).mono ?_;rintro e w2 ⟨rfl,hR,hK⟩;have h1:=hK.blk HR0.out (by have:=HRQ.out;omega);have hbn:=HB.out.trans (hK.below (B:=w.heap.size) (by have:=HRQ.out;omega) (fun i hi=>by have:=HRQ.out;omega));have hsz:=hK.size;have HS2:Hid (w1.heap.size≤w2.heap.size):=hid hsz;clear HR0 HB HRD;have HR0:=hid h1;have HB:=hid hbn;have HRD:=hid hR;clear h1 hbn hR hK hsz;go_wp2_with fail;refine (rbyte_at r q k _ _ HRD.out HBS.out.2.1 (by omega)).mono ?_;rintro e w3 ⟨rfl,hR,hK⟩;have h1:=hK.blk HR0.out (by have:=HRQ.out;omega);have hbn:=HB.out.trans (hK.below (B:=w.heap.size) (by have:=HRQ.out;have:=HS2.out;omega) (fun i hi=>by have:=HRQ.out;omega));have HS3:Hid (w1.heap.size≤w3.heap.size):=hid (Nat.le_trans HS2.out hK.size);clear HR0 HB HRD HS2;have HR0:=hid h1;have HB:=hid hbn;have HRD:=hid hR;clear h1 hbn hR hK;go_wp2_with fail;refine (rtwo_at r q 0 _ _ HRD.out HBS.out.2.2.1 (by omega)).mono ?_;rintro e w4 ⟨rfl,hR,hK⟩;have h1:=hK.blk HR0.out (by have:=HRQ.out;omega);have hbn:=HB.out.trans (hK.below (B:=w.heap.size) (by have:=HRQ.out;have:=HS3.out;omega) (fun i hi=>by have:=HRQ.out;omega));have HS4:Hid (w1.heap.size≤w4.heap.size):=hid (Nat.le_trans HS3.out hK.size);have N:=new1 w4 (.cells #[.int .u32 tag,.int .i64 k,.int .i64 0,.int .u32 0,.int .i64 0,.int .i64 0,.int .i64 0] 50);obtain ⟨V,hV⟩:∃V,w4.heap.size=V:=⟨_,rfl⟩;obtain ⟨W5,hW5⟩:∃W,w4.alloc (.cells #[.int .u32 tag,.int .i64 k,.int .i64 0,.int .u32 0,.int .i64 0,.int .i64 0,.int .i64 0] 50)=W:=⟨_,rfl⟩;rw [hW5,hV] at N;have h9:=Bl.blk (hV▸N.2.2) h1;have hb5:=hbn.trans ((hV▸N.2.2:Below w4.heap.size w4 W5).mono hbn.size);have HRD5:=hid (hR.below (hV▸N.2.2:Below w4.heap.size w4 W5) (Nat.le_refl _));have HVV:=hid N.1;have HR5:=hid h9;have HB5:=hid hb5;have HVB:Hid (r<V∧q<V∧w.heap.size<V):=hid (by have:=HRQ.out;have:=HS4.out;omega);have HW5:=hid hW5;have HEV:=hid hV;have HG5:=hid (HG.out.new hb5);obtain ⟨c0,f0,c1,f1,c2,f2,c3,f3,c4,f4,c5,f5,c6,f6⟩:=cells7 N.1;clear HR0 HB HRD N h9 hb5 h1 hbn hR hK hW5 hV;go_wp2_with fail;rw [HW5.out,HEV.out];refine (HOF.out _ HG5.out).mono ?_;rintro e w6 ⟨rfl,rfl⟩;go_wp2_with fail;refine (rfour_at r q id _ _ HRD5.out HBS.out.2.2.2.1 HOK.out.id).mono ?_;rintro e w6 ⟨rfl,hR,hK⟩;have v6:=hK.blk HVV.out (by have:=HVB.out;omega);have r6:=hK.blk HR5.out (by have:=HRQ.out;omega);have b6:=HB5.out.trans (hK.below (B:=w.heap.size) HB5.out.size (fun i hi=>by have:=HRQ.out;omega));have v7:=heap_setCell_same w6 V 3 _ 50 (.int .u32 id) v6;have r7:=(heap_setCell_ne w6 ⟨V,3,none⟩ (.int .u32 id) (k:=w.heap.size) (by have:=HVB.out;show w.heap.size≠V;omega)).trans r6;have b7:=b6.setCell (p:=⟨V,3,none⟩) (by have:=HVB.out;show w.heap.size≤V;omega) (.int .u32 id);have R7:=hR.kp ((Kp.refl (· = V) w6).setCell (p:=⟨V,3,none⟩) rfl (.int .u32 id)) (fun i hi=>by have:=HVB.out;omega);clear c0 f0 c1 f1 c2 f2 c3 f3 c4 f4 c5 f5 c6 f6;obtain ⟨c0,f0,c1,f1,c2,f2,c3,f3,c4,f4,c5,f5,c6,f6⟩:=cells7 v6;have HV7:=hid v7;have HR7:=hid r7;have HB7:=hid b7;have HRD7:=hid R7;clear hR hK v6 r6 b6 v7 r7 b7 R7;go_wp2_with fail;generalize w6.setCell ⟨V,3,none⟩ (.int .u32 id)=W7 at *;refine (reight_at r q til _ _ HRD7.out HBS.out.2.2.2.2 (by have:=HOK.out.til;dsimp only at this;omega)).mono ?_;rintro e w8 ⟨rfl,hR,hK⟩;have v6:=hK.blk HV7.out (by have:=HVB.out;omega);have r6:=hK.blk HR7.out (by have:=HRQ.out;omega);have b6:=HB7.out.trans (hK.below (B:=w.heap.size) HB7.out.size (fun i hi=>by have:=HRQ.out;omega));have v7:=heap_setCell_same w8 V 5 _ 50 (.int .i64 til) v6;have r7:=(heap_setCell_ne w8 ⟨V,5,none⟩ (.int .i64 til) (k:=w.heap.size) (by have:=HVB.out;show w.heap.size≠V;omega)).trans r6;have b7:=b6.setCell (p:=⟨V,5,none⟩) (by have:=HVB.out;show w.heap.size≤V;omega) (.int .i64 til);have R7:=hR.kp ((Kp.refl (· = V) w8).setCell (p:=⟨V,5,none⟩) rfl (.int .i64 til)) (fun i hi=>by have:=HVB.out;omega);clear c0 f0 c1 f1 c2 f2 c3 f3 c4 f4 c5 f5 c6 f6;obtain ⟨c0,f0,c1,f1,c2,f2,c3,f3,c4,f4,c5,f5,c6,f6⟩:=cells7 v6;have HV8:=hid v7;have HR8:=hid r7;have HB8:=hid b7;have HRD8:=hid R7;clear hR hK v6 r6 b6 v7 r7 b7 R7;go_wp2_with fail;generalize w8.setCell ⟨V,5,none⟩ (.int .i64 til)=W9 at *;clear c0 f0 c1 f1 c2 f2 c3 f3 c4 f4 c5 f5 c6 f6;have e0:endE [] 0=0:=rfl;refine (rend_any r q [] 0 _ HRD8.out).mono ?_;rintro o w' ⟨rfl,rfl⟩;rw [e0];obtain ⟨c0,f0,c1,f1,c2,f2,c3,f3,c4,f4,c5,f5,c6,f6⟩:=cells7 HV8.out;go_wp2_with fail;refine (HCK.out _ (HG.out.new HB8.out)).mono ?_;rintro o w10 ⟨rfl,hb⟩;have v7:=Bl.blk hb HV8.out;have r7:=Bl.blk hb HR8.out;have b7:=HB8.out.trans (hb.mono HB8.out.size);clear c0 f0 c1 f1 c2 f2 c3 f3 c4 f4 c5 f5 c6 f6;obtain ⟨c0,f0,c1,f1,c2,f2,c3,f3,c4,f4,c5,f5,c6,f6⟩:=cells7 v7;obtain ⟨d0,g0,d1,g1,d2,g2,d3,g3,d4,g4,d5,g5,d6,g6⟩:=cells7 r7;have HR10:=hid r7;have HB10:=hid b7;clear hb v7 r7 b7;go_wp2_with fail;refine bodyPost_ret (results_row2 rfl _ _ _ _ _ _ _ rfl (rset7 HR10.out) Tryz.underlying50 rfl (by kernel_rfl)) rfl ⟨rfl,rset7_below HB10.out (Nat.le_refl _) _ _ _ _ _ _ _⟩
end
section
open Go.RowKit BookPlain FlatPlain
def Upw (W0:World)(F:Nat→Prop)(w:World):Prop:=Below W0.heap.size W0 w∧(∀x,F x→W0.heap.size≤x)
theorem Upw.step {W0 w w':World}{F F':Nat→Prop}(h:Upw W0 F w)(hs:Step F F' w w'):Upw W0 F' w':=
 ⟨h.1.trans (hs.kp.below h.1.size h.2),fun x hx=>by
  rcases hs.sub x hx with e | e
  ·exact h.2 x e
  ·exact Nat.le_trans h.1.size e⟩
theorem Upw.new {W0 w w':World}{F:Nat→Prop}(h:Upw W0 F w)(hb:Below w.heap.size w w'):Upw W0 F w':=⟨h.1.trans (hb.mono h.1.size),h.2⟩
theorem Upw.kp {W0 w w':World}{F:Nat→Prop}(h:Upw W0 F w)(hk:Kp F w w'):Upw W0 F w':=⟨h.1.trans (hk.below h.1.size h.2),h.2⟩
theorem asked_do (P:Ep)(S:Egs)(m:Em)(t:Nat)(q:Rq)(v:Value)(B:Nat)(w:World)(h:Eg w P S m t)(ht:t+3≤400)(ho:w.ownsRow B 5 1 v (rqF q).length (Lb (rqF q)))(hb:Bs (rqF q))(hl:(rqF q).length ≤10000):Calls Tryz.prog 7 #[.pointer (some ⟨P.e,0,none⟩),v] w (EOut w P m (t+3) (doE P.z P.k P.n S (rqF q))):=
 edo_any P S m t v (rqF q) w h ht (Sl_of_own ho) hb hl
theorem bq1:Bs (rqF q1)∧(rqF q1).length ≤10000:=by unfold Bs;decide +kernel
theorem bq2:Bs (rqF q2)∧(rqF q2).length ≤10000:=by unfold Bs;decide +kernel
theorem bq3:Bs (rqF q3)∧(rqF q3).length ≤10000:=by unfold Bs;decide +kernel
theorem own_sl {w:World}{base e size n:Nat}{v:Value}{xs:List Value}(h:w.ownsRow base e size v n xs):∃a c,v = .slice a n c:=by
 rcases h.2 with ⟨rfl,rfl⟩ | ⟨g,cap,cur,rfl,_⟩
 ·exact ⟨_,_,rfl⟩
 ·exact ⟨_,_,rfl⟩
theorem Outs.sl {w:World}{B:Nat}{v:Value}{rs:List Rp}(h:Outs w B v rs):∃a c,v = .slice a rs.length c:=by
 obtain ⟨us,h1,_⟩:=h;exact own_sl h1
theorem Outs.at {w:World}{B i:Nat}{v:Value}{rs:List Rp}{r:Rp}(h:Outs w B v rs)(hi:rs[i]?=some r):∃g c u,v = .slice (some ⟨g,0,none⟩) rs.length c∧w.cell? ⟨g,i,none⟩=some u∧Sl w u (Lb (rpF r))∧g<w.heap.size:=by
 obtain ⟨us,h1,h2⟩:=h;obtain ⟨u,hu,ho⟩:=h2 i r hi;obtain ⟨a,c,rfl⟩:=own_sl h1;obtain ⟨g,rfl,hc,_,hg⟩:=own_cell h1 hu;exact ⟨g,c,u,rfl,hc,Sl_of_own ho,hg⟩
def AwkR (w:World)(e:Ending)(w':World):Prop:=e = .returned (.bool true)∧Below w.heap.size w w'
def AskR (q:Rq)(W:World)(e:Ending)(w':World):Prop:= ∃v,e = .returned v∧w'.ownsRow W.heap.size 5 1 v (rqF q).length (Lb (rqF q))∧Below W.heap.size W w'
theorem awake_any (w:World)(hgl:Glb w):Calls Tryz.prog 5 #[] w (AwkR w):=by
 have p0:∀W',Glb W'→Calls Tryz.prog 6 #[.agg #[.int .i64 16,.int .i64 64,.int .i64 4,.int .i64 4,.int .i64 8,.slice none 0 0]] W' (OpdA W' 16 64 3 4 4 8):=fun W' hG=>opened_ok 16 64 3 4 4 8 none 0 0 W' opn0 hG
 have p1:∀W',Calls Tryz.prog 12 #[.agg #[.int .i64 1,.int .u32 7,.int .u32 0,.int .i64 2,.int .i64 9]] W' (AskR q1 W'):=fun W'=>ask_any q1 okq1 W'
 have p2:∀W',Calls Tryz.prog 12 #[.agg #[.int .i64 8,.int .u32 8,.int .u32 0,.int .i64 0,.int .i64 0]] W' (AskR q2 W'):=fun W'=>ask_any q2 okq2 W'
 have p3:∀W',Calls Tryz.prog 12 #[.agg #[.int .i64 6,.int .u32 9,.int .u32 0,.int .i64 2,.int .i64 0]] W' (AskR q3 W'):=fun W'=>ask_any q3 okq3 W'
 have p4:∀u W',Sl W' u (Lb (rpF ⟨7,1,0,1,0,9,0⟩))→Glb W'→Calls Tryz.prog 13 #[u] W' fun e w'=>e = .returned (.tuple #[.agg #[.int .u32 7,.int .i64 1,.int .i64 0,.int .u32 1,.int .i64 0,.int .i64 9,.int .i64 0],.int .i64 0])∧Below W'.heap.size W' w':=fun u W' h hg=>repget_5 7 1 1 9 u W' okr1 mk1 h hg
 have p5:∀p F W',Pw W' p 64 16 S2.D F 0 0→Dsk S2.D 64 3 4 4 8 S2.oa S2.ob (99+7) (10000*7+98000)→Glb W'→(∀x,F x→1<x)→Calls Tryz.prog 11 #[.pointer (some ⟨p,0,none⟩),.agg #[.int .i64 4,.int .i64 4,.int .i64 8]] W' (ROpn W' p 64 16 3 S2.D F 0 1 0 7 b00 S2.oa S2.ob):=fun p F W' h hd hg hF=>ropen_at p 64 16 3 S2.D F 0 7 1 0 b00 S2.oa S2.ob W' bks0 snd0 gen0.1 gen0.2 ⟨opn0.s1,opn0.c1,opn0.g1,opn0.sz,opn0.zz,opn0.nn,opn0.kk,opn0.kn⟩ h hd (by omega) (by omega) hg hF
 have p6:∀u W',Sl W' u (Lb (rpF ⟨9,6,0,1,0,9,0⟩))→Glb W'→Calls Tryz.prog 13 #[u] W' fun e w'=>e = .returned (.tuple #[.agg #[.int .u32 9,.int .i64 6,.int .i64 0,.int .u32 1,.int .i64 0,.int .i64 9,.int .i64 0],.int .i64 0])∧Below W'.heap.size W' w':=fun u W' h hg=>repget_5 9 6 1 9 u W' okr3 mk3 h hg
 have HOP:=hid p0;have HA1:=hid p1;have HA2:=hid p2;have HA3:=hid p3;have HGL:=hid hgl;clear hgl p0 p1 p2 p3;go_enter Tryz.func5,Tryz.ntmps5;go_wp2_with fail;refine at_new1 ?_;intro W0 hp0 hs0 hb0;refine (HOP.out _ (HGL.out.new hb0)).mono ?_;rintro e w2 ⟨P,m,rfl,hz,hn,hk,hE,hF,hb2⟩;have hU2:Upw W0 (EF P m) w2:=⟨hb2,hF⟩;have HS:=hid (And.intro hp0 (And.intro hs0 hb0));have HZ:=hid (And.intro hz (And.intro hn hk));have HE2:=hid hE;have HU2:=hid hU2;clear hp0 hs0 hb0 hz hn hk hE hF hb2 hU2;go_wp2_with fail;refine (HA1.out _).mono ?_;rintro e w3 ⟨v1,rfl,ho1,hb3⟩;have HE3:=hid (HE2.out.new hb3);have HU3:=hid (HU2.out.new hb3);have HO1:=hid ho1;clear ho1 hb3;go_wp2_with fail;refine (asked_do P _ m 0 q1 _ _ _ HE3.out (by omega) HO1.out bq1.1 bq1.2).mono ?_;rintro e w4 ⟨r1,rfl,m4,B4,hB4,hO4,hE4,hS4⟩;rw [HZ.out.1,HZ.out.2.1,HZ.out.2.2] at hO4 hE4;have HE4:=hid hE4;have HU4:=hid (HU3.out.step hS4);have hO4':Outs w4 B4 r1 []:=by rw [←ck1];exact hO4
 have hE4':Eg w4 P S1 m4 3:=hE4;obtain ⟨ra,rc,rfl⟩:=hO4'.sl;have HE4:=hid hE4';have HU4:=hid (HU3.out.step hS4);clear hO4 hO4' hE4 hE4' hS4 hB4;go_wp2_with fail;refine (HA2.out _).mono ?_;rintro e w5 ⟨v2,rfl,ho2,hb5⟩;have HE5:=hid (HE4.out.new hb5);have HU5:=hid (HU4.out.new hb5);have HO2:=hid ho2;clear ho2 hb5;go_wp2_with fail;refine (asked_do P _ m4 3 q2 _ _ _ HE5.out (by omega) HO2.out bq2.1 bq2.2).mono ?_;rintro e w6 ⟨r2,rfl,m6,B6,hB6,hO6,hE6,hS6⟩;rw [HZ.out.1,HZ.out.2.1,HZ.out.2.2] at hO6 hE6;have hO6':Outs w6 B6 r2 [⟨7,1,0,1,0,9,0⟩,⟨8,8,0,0,0,0,1⟩]:=by rw [←ck2];exact hO6
 have hE6':Eg w6 P S2 m6 6:=hE6;obtain ⟨ra2,rc2,rfl⟩:=hO6'.sl;have HE6:=hid hE6';have HO6:=hid (And.intro hB6 hO6');have HU6:=hid (HU5.out.step hS6);clear hO6 hO6' hE6 hE6' hS6 hB6;go_wp2_with fail;refine (pwrestart_any _ _ _ _ _ _ _ HE6.out.dv.pw).mono ?_;rintro e w7 ⟨rfl,hk7,hp7⟩;have hU7:Upw W0 m6.F w7:=Upw.kp ⟨HU6.out.1,fun x hx=>HU6.out.2 x (Or.inl (Or.inl hx))⟩ hk7;have hO7:=HO6.out.2.kp hk7 (fun x hx=>HO6.out.1 x (Or.inl (Or.inl hx)));obtain ⟨g7,c7,u7,e7,hc7,hs7,_⟩:=hO7.at (i:=0) rfl;injection e7 with e7 _ e8;subst e7 e8;have hG7:Glb w7:=(HGL.out.new HS.out.2.2).new hU7.1;rw [HZ.out.1,HZ.out.2.1] at hp7;have HP7:=hid hp7;have HU7:=hid hU7;have HG7:=hid hG7;have HS7:=hid hs7;have hr7:=(hU7.1.block _ (heap_lt HS.out.1)).trans HS.out.1;have hF7:∀x,m6.F x→1<x:=fun x hx=>by
  have:=hU7.2 x hx;have:=HGL.out.size;have:=HS.out.2.1;omega
 have HF7:=hid hF7;have HR7:=hid hr7;clear hU7 hO7 hs7 hG7 hp7 hk7 hr7 hF7;go_wp2_with fail;refine (p4 _ _ HS7.out HG7.out).mono ?_;rintro e w8 ⟨rfl,hb8⟩;have hr8:=Bl.blk hb8 HR7.out;have N9:=new1 w8 (.cells #[.int .u32 7,.int .i64 1,.int .i64 0,.int .u32 1,.int .i64 0,.int .i64 9,.int .i64 0] 50);obtain ⟨w9,hw9⟩:∃W,w8.alloc (.cells #[.int .u32 7,.int .i64 1,.int .i64 0,.int .u32 1,.int .i64 0,.int .i64 9,.int .i64 0] 50)=W:=⟨_,rfl⟩;have hset:w9.setCell ⟨w8.heap.size,6,none⟩ (.int .i64 0)=w9:=by
  rw [←hw9,World.setCell_alloc_new];rfl
 rw [hw9] at N9;obtain ⟨_,_,_,_,_,_,_,_,_,_,_,_,b6,f6⟩:=cells7 N9.1;have hr9:=Bl.blk N9.2.2 hr8;obtain ⟨a0,_,a1,_,a2,_,a3,_,a4,_,a5,_⟩:=cells6 hr9;have hd7:Dsk S2.D 64 3 4 4 8 S2.oa S2.ob (99+7) (10000*7+98000):=by
  have:=HE6.out.pl.sl;rw [ck3.2.2.1,ck3.2.2.2.1,ck3.2.2.2.2,HZ.out.1,HZ.out.2.2] at this;exact this.mono (by omega) (by omega)
 have HOP2:=hid (p5 P.p m6.F w9 (((HP7.out).new hb8).new N9.2.2) hd7 ((HG7.out.new hb8).new N9.2.2) HF7.out);have HU9:=hid ((HU7.out.new hb8).new N9.2.2);have HN9:=hid N9;have HB8:=hid hb8;have HR9:=hid hr9;clear hb8 hr8 hd7 N9 hr9;go_wp2_with fail;refine HOP2.out.mono ?_;rintro e w10 ⟨P',m',rfl,hpp,hz',hn',hk',hE',hS',hc'⟩;have hU10:=HU9.out.step hS';have hr10:=hS'.kp.blk HN9.out.1 (fun h=>by have:=HP7.out.flt _ h;have:=HB8.out.size;omega);have N11:=new1 w10 (.cells #[.int .u64 1,.int .u64 0,.int .i64 (rcM 64 16 3 1 0 b00 S2.D:Int)] 41);obtain ⟨w11,hw11⟩:∃W,w10.alloc (.cells #[.int .u64 1,.int .u64 0,.int .i64 (rcM 64 16 3 1 0 b00 S2.D:Int)] 41)=W:=⟨_,rfl⟩;rw [hw11] at N11;have hr11:=Bl.blk N11.2.2 hr10;have HE11:=hid (hE'.new N11.2.2);have HU11:=hid (hU10.new N11.2.2);have HZ':=hid (And.intro hz' (And.intro hn' hk'));have HR11:=hid hr11;have HX12:=hid (show ¬EF P' m' w8.heap.size from fun h=>by
  rcases hS'.sub _ h with e | e
  ·have:=HP7.out.flt _ e;have:=HB8.out.size;omega
  ·have:=HN9.out.2.1;omega)
 clear hpp hz' hn' hk' hE' hS' hc' hU10 hr10 a0 a1 a2 a3 a4 a5 b6 f6 hset;obtain ⟨a0,g0,a1,g1,a2,g2,a3,g3,a4,g4,a5,g5,a6,g6⟩:=cells7 hr11;clear hr11 N11;go_wp2_with fail;refine (HA3.out _).mono ?_;rintro e w12 ⟨v3,rfl,ho3,hb12⟩;have HE12:=hid (HE11.out.new hb12);have HU12:=hid (HU11.out.new hb12);have HO3:=hid ho3;have hr12:=Bl.blk hb12 HR11.out;have HR12:=hid hr12;clear ho3 hb12 a0 g0 a1 g1 a2 g2 a3 g3 a4 g4 a5 g5 a6 g6 hr12 hw9 hw11;go_wp2_with fail;refine (asked_do P' _ m' 7 q3 _ _ _ HE12.out (by omega) HO3.out bq3.1 bq3.2).mono ?_;rintro e w13 ⟨r3,rfl,m13,B13,hB13,hO13,hE13,hS13⟩;rw [HZ'.out.1,HZ'.out.2.1,HZ'.out.2.2] at hO13;have hO13':Outs w13 B13 r3 [⟨9,6,0,1,0,9,0⟩]:=by rw [←ck4];exact hO13
 have hU13:=HU12.out.step hS13;have hG13:=hE13.gl;obtain ⟨g13,c13,u13,rfl,hc13,hs13,_⟩:=hO13'.at (i:=0) rfl;have HU13:=hid hU13;have HG13:=hid hG13;have HS13:=hid hs13;have hr13:=hS13.kp.blk HR12.out (fun h=>HX12.out h);have HR13:=hid hr13;clear hO13 hO13' hE13 hS13 hB13 hU13 hG13 hs13 hr13;go_wp2_with fail;refine (p6 _ _ HS13.out HG13.out).mono ?_;rintro e w14 ⟨rfl,hb14⟩;have hr14:=Bl.blk hb14 HR13.out;obtain ⟨a0,g0,a1,g1,a2,g2,a3,g3,a4,g4,a5,g5,a6,g6⟩:=cells7 hr14;have HU14:=hid (HU13.out.new hb14);clear hb14 hr14;go_wp2_with fail;go_ret;have hle:w.heap.size≤w8.heap.size:=by have:=HU7.out.1.size;have:=HB8.out.size;have:=HS.out.2.1;omega
 have hB:Below w.heap.size w w14:=HS.out.2.2.trans (HU14.out.1.mono HS.out.2.2.size);refine ⟨rfl,Kp.below (F:=fun i=>w.heap.size≤i) ?_ (Nat.le_refl _) (fun i h=>h)⟩;repeat (refine Kp.setCell ?_ (show w.heap.size≤w8.heap.size from hle) _)
 exact Kp.of_below hB (Nat.le_refl _)
def shp (b:Bk):Nat×Nat×Nat:=(b.s,b.c,b.g)
theorem doE_shape (z k n:Nat)(S:Egs)(x:List Nat):shp (doE z k n S x).1.b = shp S.b:=by
 have ha:∀q,shp (takeE S q).b = shp S.b:=fun q=>by
  obtain ⟨h1,h2,h3⟩:=applyN_shape S.b (recQ S.b q).1 (recQ S.b q).2.1 (recQ S.b q).2.2.1 (recQ S.b q).2.2.2.1 (recQ S.b q).2.2.2.2;unfold shp takeE;rw [h1,h2,h3]
 unfold doE;cases reqG x with
 | none=>rfl
 | some q=>
  show shp (doQ z k n S q).1.b = _
  unfold doQ;split
  ·rfl
  split
  ·rfl
  split
  ·rfl
  unfold chgE;split
  ·split
   ·exact ha q
   ·exact ha q
  ·rfl
theorem rcB_shape (z n k g0 c0:Nat)(b0:Bk)(D:List Nat):shp (rcB z n k g0 c0 b0 D)=shp b0:=by
 unfold rcB shp;obtain ⟨h1,h2,h3⟩:=runF_shape (bodiesF z n k g0 c0 D) b0;rw [h1,h2,h3]
theorem eg0_shape (z n k s c g:Nat):shp (eg0 z n k s c g).b = (s,c,g):=rcB_shape _ _ _ _ _ _ _
theorem opened_any (n z s c g:Int)(oa:Option Addr)(ln cp:Nat)(xs:List (List Nat))(hb:Byd n z s c xs):
 (∃n' z' k' s' c' g':Nat,n=(n':Int)∧z=(z':Int)∧s=(s':Int)∧c=(c':Int)∧g=(g':Int)∧Opn 0 z' n' k' s' c' g')∨(∀W',Calls Tryz.prog 6 #[.agg (styC n z s c g oa ln cp)] W' (OpdB W')):=by
 obtain ⟨b1,b2,b3,b4,_⟩:=hb;by_cases hN:n<1∨(1≤n∧n≤96∧sizedB z=false)
 ·right;intro W';refine opened_bad1 n z s c g oa ln cp W' hN (hid (fun W2=>?_));cases hs:shB s c g with
  | false=>exact plan_badShape s c g n z W2 hs
  | true=>
   refine plan_badArg s c g n z W2 hs ?_;rcases hN with h | ⟨h1,h2,h3⟩
   ·exact Or.inl h
   ·exact Or.inr ⟨h1,by omega,h3⟩
 ·have hn1:1≤n:=by omega
  have hz:sizedB z=true:=by
   cases h:sizedB z with
   | true=>rfl
   | false=>exact absurd (Or.inr ⟨hn1,b1,h⟩) hN
  have hz2:=sizedB_le hz;obtain ⟨n',rfl⟩:=Int.eq_ofNat_of_zero_le (show 0≤n by omega);obtain ⟨z',rfl⟩:=Int.eq_ofNat_of_zero_le (show 0≤z by omega);cases hs:shB s c g with
  | false=>
   right;intro W';exact opened_bad2 n' z' s c g oa ln cp W' (by omega) (by omega) hz (hid (fun W2=>plan_badShape s c g n' z' W2 hs))
  | true=>
   obtain ⟨s',c',g',rfl,rfl,rfl,h1,h2,h3,h4,h5,h6⟩:=shB_nat hs;by_cases hr:2*slotN s' c' z'+1≤n'
   ·exact Or.inl ⟨n',z',_,s',c',g',rfl,rfl,rfl,rfl,rfl,⟨by omega,by omega,by omega,hz,by omega,by omega,rfl,hr⟩⟩
   ·right;intro W';exact opened_bad2 n' z' s' c' g' oa ln cp W' (by omega) (by omega) hz (hid (fun W2=>plan_badSmall s' c' g' z' n' _ W2 h1 h2 h3 h4 h5 h6 hz (by omega) (by omega) rfl hr))
theorem top_any (n z s c g:Int)(oa:Option Addr)(cp:Nat)(xs:List (List Nat))(w:World)(hx:Asks w oa xs)(hcp:xs.length≤cp)(hxl:∀x∈xs,x.length≤140737488351232)(hgl:Glb w):Calls Tryz.prog 3 #[.agg (styC n z s c g oa xs.length cp)] w (AwkR w):=by
 have p0:∀W',Asks W' oa xs→Calls Tryz.prog 4 #[.agg (styC n z s c g oa xs.length cp)] W' (BydR W' n z s c xs):=fun W' h=>beyond_any n z s c g oa cp xs W' h hcp hxl
 have p1:=opened_any n z s c g oa xs.length cp xs;unfold styC at p0 p1 ⊢;have N:=new1 w (.cells #[.int .i64 n,.int .i64 z,.int .i64 s,.int .i64 c,.int .i64 g,.slice oa xs.length cp] 26);obtain ⟨W0,hW0⟩:∃W,w.alloc (.cells #[.int .i64 n,.int .i64 z,.int .i64 s,.int .i64 c,.int .i64 g,.slice oa xs.length cp] 26)=W:=⟨_,rfl⟩;rw [hW0] at N;have HN:=hid N;have HB:=hid (p0 W0 (hx.below N.2.2));have HX:=hid (hx.below N.2.2);have HG:=hid (hgl.new N.2.2);have HO:=hid p1;obtain ⟨a0,_,a1,_,a2,_,a3,_,a4,_,a5,_⟩:=cells6 N.1;clear N hx hgl p0 p1;go_enter Tryz.func3,Tryz.ntmps3;go_wp2_with fail;refine HB.out.mono ?_;rintro e w1 ⟨b,rfl,hb1,hbyd⟩;have HG1:=hid (HG.out.new hb1);have HB1:=hid hb1;have hr1:=Bl.blk hb1 HN.out.1;clear a0 a1 a2 a3 a4 a5;obtain ⟨a0,_,a1,_,a2,_,a3,_,a4,_,a5,_⟩:=cells6 hr1;cases b with
 | true=>
  clear hb1 hbyd hr1;go_wp2_with fail;refine (awake_any _ HG1.out).mono ?_;rintro e w2 ⟨rfl,hb2⟩;go_wp2_with fail;go_ret;exact ⟨rfl,HN.out.2.2.trans ((HB1.out.trans (hb2.mono HB1.out.size)).mono HN.out.2.2.size)⟩
 | false=>
  have hby:=hbyd rfl;rcases HO.out hby with h | h
  ·obtain ⟨n',z',k,s',c',g',rfl,rfl,rfl,rfl,rfl,ho⟩:=h;have HOA:=hid (opened_ok n' z' k s' c' g' oa xs.length cp w1 ho HG1.out);have HOP:=hid ho;have HR1:=hid hr1;have HBY:=hid hby;clear hb1 hbyd hr1 ho hby;go_wp2_with fail;refine HOA.out.mono ?_;rintro e w2 ⟨P,m,rfl,hz,hn,hk,hE,hF,hb2⟩;have hU2:Upw w1 (EF P m) w2:=⟨hb2,hF⟩;have hsh2:shp (eg0 z' n' k s' c' g').b = (s',c',g'):=eg0_shape _ _ _ _ _ _;have HZ:=hid (And.intro hz (And.intro hn hk));clear hz hn hk hF hb2 a0 a1 a2 a3 a4 a5;go_wp2_with fail;go_loopw [7] (fun i wr=> ∃(j:Nat) (S:Egs) (mj:Em),i = .int .i64 j∧j≤xs.length∧Eg wr P S mj (3*j)∧shp S.b=(s',c',g')∧Upw w1 (EF P mj) wr) (fun i wr=>xs.length-(intOf i).toNat)
   case atStart=>exact ⟨0,_,m,rfl,Nat.zero_le _,hE,hsh2,hU2⟩
   case round=>
    obtain ⟨j,S,mj,rfl,hj,hEj,hsj,hUj⟩:=hrel;have hrj:=(hUj.1.block _ (heap_lt HR1.out)).trans HR1.out;obtain ⟨a0,_,a1,_,a2,_,a3,_,a4,_,a5,_⟩:=cells6 hrj;by_cases hlt:j<xs.length
    ·have hjI:(j:Int)<(xs.length:Int):=by omega
     obtain ⟨x,hxj⟩:∃x,xs[j]?=some x:=⟨_,List.getElem?_eq_getElem hlt⟩;have hA:=HX.out.below (HB1.out.trans (hUj.1.mono HB1.out.size));obtain ⟨b,off,v,rfl,hb,hc,hs,hbs⟩:=hA j x hxj;have hxl2:=HBY.out.2.2.2.2.2 x (List.mem_of_getElem? hxj);have h80:=HBY.out.2.2.2.2.1;have HC:=hid (copyb_any v x wr hs (by omega));have HEj:=hid hEj;have HUj:=hid hUj;have HSj:=hid hsj;have HBS:=hid (And.intro hbs hxl2);have HL:=hid h80;clear hEj hUj hsj hbs hxl2 h80 hA hxj hs hrj;go_wp2_with fail;refine HC.out.mono ?_;rintro e w5 ⟨v',rfl,ho5,hb5⟩;have HED:=hid (edo_any P S mj (3*j) v' x w5 (HEj.out.new hb5) (by have:=HL.out;omega) (Sl_of_own ho5) HBS.out.1 (by have:=HBS.out.2;omega));have HU5:=hid (HUj.out.new hb5);clear ho5 hb5 a0 a1 a2 a3 a4 a5 hb hc;go_wp2_with fail;refine HED.out.mono ?_;rintro e w6 ⟨v6,rfl,m6,B6,_,_,hE6,hS6⟩;have HE6:=hid hE6;have HU6:=hid (HU5.out.step hS6);clear hE6 hS6;have h81:=HL.out;go_wp2_with fail;go_roundw;case rel=>exact ⟨j+1,_,m6,by go_num,by omega,HE6.out,(doE_shape _ _ _ _ _).trans HSj.out,HU6.out⟩
     case measure=>simp [intOf];omega
    ·have hjI:¬(j:Int)<(xs.length:Int):=by omega
     have HEj:=hid hEj;have HUj:=hid hUj;have HSj:=hid hsj;have HJ:=hid hj;clear hEj hUj hsj hrj;go_wp2_with fail;refine (pwrestart_any _ _ _ _ _ _ _ HEj.out.dv.pw).mono ?_;rintro e w5 ⟨rfl,hk5,hp5⟩;have hU5:Upw w1 mj.F w5:=Upw.kp ⟨HUj.out.1,fun x hx=>HUj.out.2 x (Or.inl (Or.inl hx))⟩ hk5;have HP5:=hid hp5;have HU5:=hid hU5;clear hk5 hp5 hU5 a0 a1 a2 a3 a4 a5;go_wp2_with fail;rw [HZ.out.1,HZ.out.2.1] at HP5;go_loopw [2,8,9,10,11,12] (fun b2 i b9 b10 b11 b12 wr=> ∃(jj:Nat) (D:List Nat) (F:Nat→Prop) (cc:Nat) (oa ob:Option SlotPlain.Sl),b2 = .bool false∧i = .int .i64 jj∧jj≤3∧Pw wr P.p z' n' D F cc 0∧Dsk D z' k s' c' g' oa ob (99+(3*j+1+jj)) (10000*(3*j+1+jj)+98000)∧cc≤1000*jj∧Upw w1 F wr) (fun b2 i b9 b10 b11 b12 wr=>3-(intOf i).toNat)
     case atStart=>
      have hd:=HEj.out.pl.sl;have hs:=HSj.out;unfold shp at hs;injection hs with e1 e2;injection e2 with e2 e3;rw [e1,e2,e3,HZ.out.1,HZ.out.2.2] at hd;exact ⟨0,S.D,mj.F,0,S.oa,S.ob,rfl,rfl,by omega,HP5.out,hd.mono (by omega) (by omega),by omega,HU5.out⟩
     case round=>
      obtain ⟨jj,D,F,cc,oa2,ob2,rfl,rfl,hjj,hp,hd,hcc,hu⟩:=hrel;have hrr:=(hu.1.block _ (heap_lt HR1.out)).trans HR1.out;obtain ⟨a0,_,a1,_,a2,_,a3,_,a4,_,a5,_⟩:=cells6 hrr;by_cases hlt3:jj<3
      ·have hGr:=(HG1.out).new hu.1;have h80:=HBY.out.2.2.2.2.1;have hj9:=HJ.out;obtain ⟨g0,c0,b0,hbk,hsb,hsh,hg0,hc0,hop⟩:=ropen_ok P.p z' n' k D F cc (3*j+1+jj) s' c' g' oa2 ob2 wr ⟨HOP.out.s1,HOP.out.c1,HOP.out.g1,HOP.out.sz,HOP.out.zz,HOP.out.nn,HOP.out.kk,HOP.out.kn⟩ hp hd (by omega) (by omega) hGr (fun x hx=>by have:=hu.2 x hx;have:=HG1.out.size;omega);have HCN:=hid (pwcount_any _ _ _ _ _ _ _ _ hp);have HOPN:=hid hop;have HU:=hid hu;have HSH:=hid hsh;have HPP:=hid hp;have HCC:=hid hcc;have HRR:=hid hrr;clear hop hu hsh hp hd hcc hrr hbk hsb hg0 hc0 hGr h80 hj9;go_wp2_with fail;refine HCN.out.mono ?_;rintro e wx ⟨rfl,rfl⟩;go_wp2_with fail;refine HOPN.out.mono ?_;rintro e w7 ⟨P',m',rfl,hpp,hz',hn',hk',hE',hS',hc'⟩;have N8:=new1 w7 (.cells #[.int .u64 g0,.int .u64 c0,.int .i64 (rcM z' n' k g0 c0 b0 D:Int)] 41);obtain ⟨w8,hw8⟩:∃W,w7.alloc (.cells #[.int .u64 g0,.int .u64 c0,.int .i64 (rcM z' n' k g0 c0 b0 D:Int)] 41)=W:=⟨_,rfl⟩;rw [hw8] at N8;have hU8:=(HU.out.step hS').new N8.2.2;have hE8:=hE'.new N8.2.2;have hpw:=hE8.dv.pw;rw [hpp] at hpw;have HC2:=hid (pwcount_any _ _ _ _ _ _ _ _ hpw);have hr8:=(hU8.1.block _ (heap_lt HR1.out)).trans HR1.out;have hk2:=hE8.pl.k2;have hkn:=hE8.pl.kn;rw [hk'] at hk2;rw [hk',hn'] at hkn;have hn96:=HOP.out.nn;have HK:=hid (And.intro hk2 hkn);have hbig:¬(4*(n':Int)+16<(m'.c:Int)-(cc:Int)):=by omega
       have hmc:(m'.c:Int)≤100000:=by have:=HCC.out;omega
       have hcc9:(cc:Int)≤100000:=by have:=HCC.out;omega
       have HE8:=hid hE8;have HU8:=hid hU8;have HPW:=hid hpw;have HZ8:=hid (And.intro hz' (And.intro hn' hk'));have HC8:=hid hc';clear a0 a1 a2 a3 a4 a5;obtain ⟨a0,_,a1,_,a2,_,a3,_,a4,_,a5,_⟩:=cells6 hr8;clear hpp hz' hn' hk' hE' hS' hc' N8 hU8 hE8 hpw hr8 hk2 hkn;go_wp2_with fail;go_quiet ((go_at_call 10;exact Calls.quiet_of_same ((pwcount_any _ _ _ _ _ _ _ _ (HPW.out.new (below_drewN (Below.refl _ _) _))).mono (fun _ _ h=>⟨h.1,h.2.symm⟩))))
       go_wp2_with fail;have HQ:=hid (below_drewN (Below.refl w8.heap.size w8) nq);go_roundw;case rel=>
        have hp8:=HPW.out.new HQ.out;rw [HZ8.out.1,HZ8.out.2.1] at hp8;have hd8:Dsk _ P'.z P'.k (rcB z' n' k g0 c0 b0 D).s (rcB z' n' k g0 c0 b0 D).c (rcB z' n' k g0 c0 b0 D).g _ _ _ _:=HE8.out.pl.sl;have hs8:=rcB_shape z' n' k g0 c0 b0 D;unfold shp at hs8;injection hs8 with e1 e2;injection e2 with e2 e3;rw [e1,e2,e3,HSH.out.1,HSH.out.2.1,HSH.out.2.2,HZ8.out.1,HZ8.out.2.2] at hd8;have hu8:=HU8.out.new HQ.out;have hm8:=HC8.out;have hc9:=HCC.out;have hk9:=HK.out;exact ⟨jj+1,_,m'.F,m'.c,_,_,rfl,by go_num,by omega,hp8,hd8.mono (by omega) (by omega),by omega,⟨hu8.1,fun x hx=>hu8.2 x (Or.inl (Or.inl hx))⟩⟩
       case measure=>simp [intOf];omega
      ·have HU:=hid hu;have HG9:=hid (HG1.out.new hu.1);clear hu hp hd hcc hrr;go_wp2_with fail;refine (awake_any _ HG9.out).mono ?_;rintro e w9 ⟨rfl,hb9⟩;go_wp2_with fail;go_ret;exact ⟨rfl,HN.out.2.2.trans ((HB1.out.trans ((HU.out.1.trans (hb9.mono HU.out.1.size)).mono HB1.out.size)).mono HN.out.2.2.size)⟩
  ·have HOB:=hid (h w1);clear hb1 hbyd hr1 h;go_wp2_with fail;refine HOB.out.mono ?_;rintro e w2 ⟨v1,v2,rfl,hb2⟩;have HB2:=hid (HB1.out.trans (hb2.mono HB1.out.size));have HG2:=hid (HG1.out.new hb2);clear hb2;go_wp2_with fail;refine (awake_any _ HG2.out).mono ?_;rintro e w3 ⟨rfl,hb3⟩;go_wp2_with fail;go_ret;exact ⟨rfl,HN.out.2.2.trans ((HB2.out.trans (hb3.mono HB2.out.size)).mono HN.out.2.2.size)⟩
end
section
open Go.ChangeShapes Go.WideShapes Go.ChangeAt Go.RowKit Go.Deep CrcPlain FlatPlain
theorem own:ownKnob Tryz.prog.godebug=none:=by kernel_rfl
theorem laidOut:laidOutB Tryz.prog=true:=by kernel_rfl
theorem gTab:Tryz.prog.globalNamed "gangway/crc.table" = some 1:=by kernel_rfl
theorem gFld:Tryz.prog.globalNamed "gangway/replies.fields" = some 0:=by kernel_rfl
theorem gTabType:(Tryz.prog.globals[1]?).map (·.type)=some 279:=by kernel_rfl
theorem gFldType:(Tryz.prog.globals[0]?).map (·.type)=some 184:=by kernel_rfl
theorem ct279:Tryz.prog.cellsOf 279=16:=by kernel_rfl
theorem ct46:Tryz.prog.cellsOf 46=1:=by kernel_rfl
theorem ct184:Tryz.prog.cellsOf 184=11:=by kernel_rfl
theorem ct3:Tryz.prog.cellsOf 3=1:=by kernel_rfl
theorem ct5:Tryz.prog.cellsOf 5=1:=by kernel_rfl
theorem ct34:Tryz.prog.cellsOf 34=1:=by kernel_rfl
theorem ct24:Tryz.prog.cellsOf 24=1:=by kernel_rfl
theorem ct23:Tryz.prog.cellsOf 23=3:=by kernel_rfl
theorem ct26:Tryz.prog.cellsOf 26=6:=by kernel_rfl
theorem bytes5:Tryz.prog.bytesOf 5=1:=by kernel_rfl
def tabZ:List Int:=[0,498536548,997073096,651767980,1994146192,1802195444,1303535960,1342533948,3988292384,4027552580,3604390888,3412177804,2607071920,2262029012,2685067896,3183342108]
def fldZ:List Int:=[0,5,0,0,2,6,5,4,8,8,8]
theorem tabZ_is:∀i:Fin 16,J (table.getD i.val 0#32)=tabZ.getD i.val 0:=by decide
theorem fldZ_is:∀i:Fin 11,((fldL.getD i.val 0:Nat):Int)=fldZ.getD i.val 0:=by decide
set_option maxRecDepth 100000 in
theorem glb_of {W:World}(h:laidMetH Tryz.prog [("gangway/crc.table",Rows.laid_gangway_crc_table),("gangway/replies.fields",Rows.laid_gangway_replies_fields)] W):Glb W:=by
 have hm:laidMet Tryz.prog [("gangway/crc.table",Rows.laid_gangway_crc_table),("gangway/replies.fields",Rows.laid_gangway_replies_fields)] W:=h;have hT:Lib.TabIs Tryz.prog W "gangway/crc.table" .u32 tabZ:=Lib.tabIs_of_head gTab gTabType Tryz.underlying279 Tryz.underlying46 ct46 ct279 hm;have h2:laidMet Tryz.prog [("gangway/replies.fields",Rows.laid_gangway_replies_fields)] W:=laidMet.filter (fun x=>x.1 == "gangway/replies.fields") hm;have hF:Lib.TabIs Tryz.prog W "gangway/replies.fields" .i64 fldZ:=Lib.tabIs_of_head (rest:=[]) gFld gFldType Tryz.underlying184 Tryz.underlying3 ct3 ct184 h2;refine ⟨fun i hi=>?_,fun i x hx=>?_⟩
 ·rw [hT.cell gTab i (by simpa [tabZ] using hi),←tabZ_is ⟨i,hi⟩]
 ·have hi:i<11:=by
   rcases Nat.lt_or_ge i 11 with h | h
   ·exact h
   ·rw [List.getElem?_eq_none (by simp [fldL];exact h)] at hx;cases hx
  rw [hF.cell gFld i (by simpa [fldZ] using hi),←fldZ_is ⟨i,hi⟩];show some (Value.int .i64 ((fldL.getD i 0:Nat):Int))=_
  simp [List.getD,hx]
section
variable {H:Type} {enc:TypeId×Value→H} {W:World} {base:Nat} {held:Bool}
theorem byte_wf {n:Int}(h:(Lit.int .u8 n).wf = true):∃b:Nat,b<256∧n=(b:Int):=by
 have hb:0≤n∧n<256:=by
  simp [Lit.wf,IntKind.min,IntKind.max,IntKind.signed,IntKind.bits] at h;omega
 exact ⟨n.toNat,by omega,by omega⟩
theorem choose_two {α:Type}[Inhabited α]{m:Nat}{p:Nat→α→Prop}(h:∀i,i<m→ ∃a,p i a):∃f:Nat→α,∀i,i<m→p i (f i):=by
 classical
 exact ⟨fun i=>if c:i<m then (h i c).choose else default,fun i hi=>by simp only [dif_pos hi];exact (h i hi).choose_spec⟩
theorem open_bytes {n:Nat}{cs:List Value}{y:DataW H×List MemPlace}(h:DataW.trod enc Tryz.prog W base (fun _=>true) held n 34 cs=some y):
 ∃(v:Value) (l:List Nat),cs=[v]∧Sl W v (Lb l)∧Bs l∧((y.1 = .nil ∧l=[])∨ ∃elems spare,y.1 = .slice elems spare∧elems.length=l.length):=by
 rcases open_slice1 Tryz.underlying34 ct5 h with ⟨rfl,rfl⟩ | ⟨a,len,cap,m,n',V,D,Pl,rfl,_,hl,hm,hmm,rfl,hi⟩
 ·exact ⟨_,[],rfl,Sl_nil W,(fun b hb=>by simp at hb),Or.inl ⟨rfl,rfl⟩⟩
 ·simp only [if_true] at hmm;subst hmm;have hel:∀i,i<m→ ∃b:Nat,V i = .int .u8 b∧b<256:=by
   intro i him;obtain ⟨_,ht⟩:=hi i him;obtain ⟨z,e,_,hw⟩:=DataW.trod_int Tryz.underlying5 ht;obtain ⟨b,hb,rfl⟩:=byte_wf hw;injection e with e _;exact ⟨b,e,hb⟩
  obtain ⟨f,hf⟩:=choose_two hel;have hs:=Sl_of_cells (w:=W) (x:=a) (len:=len) (cap:=m) (zs:=Lb ((List.range m).map f)) hl hm (by simp [Lb]) (fun i u hu=>by
   have hlt:i<m:=by
    rcases Nat.lt_or_ge i m with h | h
    ·exact h
    ·rw [List.getElem?_eq_none (by simp [Lb];omega)] at hu;cases hu
   rw [(hi i hlt).1,(hf i hlt).1,←hu];simp [Lb,hlt])
  have e:(Lb ((List.range m).map f)).take len=Lb ((List.range len).map f):=by
   unfold Lb;rw [←List.map_take,←List.map_take,List.take_range,Nat.min_eq_left hl]
  rw [e] at hs;refine ⟨_,_,rfl,hs,fun b hb=>?_,Or.inr ⟨_,_,rfl,by simp⟩⟩;obtain ⟨i,hi2,rfl⟩:=List.mem_map.1 hb;exact (hf i (by have:=List.mem_range.1 hi2;omega)).2
theorem weights_all {e:TypeId}{d:DataW H}{n:Nat}:∀{ds:List (DataW H)},d∈ds→n∈d.weights Tryz.prog e→n∈DataW.weightsAll Tryz.prog e ds
 | [],h,_=>by cases h
 | d0::ds,h,hn=>by
  simp only [DataW.weightsAll,List.mem_append];rcases List.mem_cons.1 h with rfl | h
  ·exact Or.inl hn
  ·exact Or.inr (weights_all h hn)
theorem open_rows {n:Nat}{cs:List Value}{y:DataW H×List MemPlace}(h:DataW.trod enc Tryz.prog W base (fun _=>true) held n 24 cs=some y)(hsz:∀n∈y.1.weights Tryz.prog 24,n≤reachBytes):
 ∃(oa:Option Addr) (xs:List (List Nat)) (cp:Nat),cs=[.slice oa xs.length cp]∧xs.length≤cp∧Asks W oa xs∧ ∀x∈xs,x.length≤140737488351232:=by
 rcases open_slice1 Tryz.underlying24 ct34 h with ⟨rfl,rfl⟩ | ⟨a,len,cap,m,n',V,D,Pl,rfl,_,hl,hm,hmm,rfl,hi⟩
 ·exact ⟨none,[],0,rfl,Nat.le_refl _,fun i x hx=>by simp at hx,fun x hx=>by cases hx⟩
 ·simp only [if_true] at hmm;subst hmm;have hel:∀i,i<len→ ∃l:List Nat,Sl W (V i) (Lb l)∧Bs l∧l.length≤140737488351232:=by
   intro i him;obtain ⟨_,ht⟩:=hi i (by omega);obtain ⟨v,l,e,hs,hb,hn⟩:=open_bytes ht;injection e with e _;subst e;refine ⟨l,hs,hb,?_⟩;rcases hn with ⟨_,rfl⟩ | ⟨elems,spare,he,hle⟩
   ·simp
   ·have he':D i = .slice elems spare:=he;have hmem:(elems.length+spare.length)*Tryz.prog.bytesOf 5∈(D i).weights Tryz.prog 34:=by
     rw [he'];simp only [DataW.weights,Tryz.underlying34];exact List.mem_cons_self ..
    have hin:(elems.length+spare.length)*Tryz.prog.bytesOf 5∈(DataW.slice (List.map D (List.range len)) (List.map (fun j=>D (len+j)) (List.range (m-len)))).weights Tryz.prog 24:=by
     simp only [DataW.weights,Tryz.underlying24,List.mem_cons,List.mem_append];exact Or.inr (Or.inl (weights_all (List.mem_map_of_mem (List.mem_range.2 him)) hmem))
    have h9:=hsz _ hin;rw [bytes5] at h9;unfold reachBytes at h9;omega
  obtain ⟨f,hf⟩:=choose_two hel;refine ⟨some a,(List.range len).map f,m,by simp,by simpa using hl,fun i x hx=>?_,fun x hx=>?_⟩
  ·have hlt:i<len:=by
    rcases Nat.lt_or_ge i len with h | h
    ·exact h
    ·rw [List.getElem?_eq_none (by simp;omega)] at hx;cases hx
   have hx':f i=x:=by simpa [hlt] using hx
   subst hx';have hc:=(hi i (by omega)).1;obtain ⟨b,off,spot⟩:=a;have h0:=(hi 0 (by omega)).1;have hspot:spot=none:=by simpa [Addr.add] using World.cell?_spot h0
   subst hspot;have hadd:(⟨b,off,none⟩:Addr).add i=⟨b,off+i,none⟩:=by unfold Addr.add;split<;>simp_all
   rw [hadd] at hc;exact ⟨b,off,V i,rfl,World.block_lt_of_cell? W ⟨b,off+i,none⟩ hc,hc,(hf i hlt).1,(hf i hlt).2.1⟩
  ·obtain ⟨i,hi2,rfl⟩:=List.mem_map.1 hx;exact (hf i (List.mem_range.1 hi2)).2.2
theorem open_shape {n:Nat}{cs:List Value}{y:DataW H×List MemPlace}(h:DataW.trod enc Tryz.prog W base (fun _=>true) held n 23 cs=some y):∃s c g:Int,cs=[.int .i64 s,.int .i64 c,.int .i64 g]:=by
 obtain ⟨ys,nn,hn',hy,hlen,hyl,hf⟩:=DataW.trod_struct Tryz.underlying23 h;rw [ct23] at hlen;match cs,hlen with
 | [v0,v1,v2],_=>
  match ys,hyl with
  | [y0,y1,y2],_=>
   have g0:DataW.trod enc Tryz.prog W base (fun _=>true) held nn 3 (List.take (Tryz.prog.cellsOf 3) (List.drop 0 [v0,v1,v2]))=some y0:=hf 0 _ rfl;have g1:DataW.trod enc Tryz.prog W base (fun _=>true) held nn 3 (List.take (Tryz.prog.cellsOf 3) (List.drop 1 [v0,v1,v2]))=some y1:=hf 1 _ rfl;have g2:DataW.trod enc Tryz.prog W base (fun _=>true) held nn 3 (List.take (Tryz.prog.cellsOf 3) (List.drop 2 [v0,v1,v2]))=some y2:=hf 2 _ rfl;rw [ct3] at g0 g1 g2;obtain ⟨a,e0,_⟩:=DataW.trod_int Tryz.underlying3 g0;obtain ⟨b,e1,_⟩:=DataW.trod_int Tryz.underlying3 g1;obtain ⟨c,e2,_⟩:=DataW.trod_int Tryz.underlying3 g2;injection e0 with e0 _;injection e1 with e1 _;injection e2 with e2 _;subst e0 e1 e2;exact ⟨a,b,c,rfl⟩
theorem open_story {n:Nat}{cs:List Value}{y:DataW H×List MemPlace}(h:DataW.trod enc Tryz.prog W base (fun _=>true) held n 26 cs=some y)(hsz:∀n∈y.1.weights Tryz.prog 26,n≤reachBytes):
 ∃(n z s c g:Int) (oa:Option Addr) (xs:List (List Nat)) (cp:Nat),cs=(styC n z s c g oa xs.length cp).toList ∧xs.length≤cp∧Asks W oa xs∧ ∀x∈xs,x.length≤140737488351232:=by
 obtain ⟨ys,nn,hn',hy,hlen,hyl,hf⟩:=DataW.trod_struct Tryz.underlying26 h;rw [ct26] at hlen;match cs,hlen with
 | [v0,v1,v2,v3,v4,v5],_=>
  match ys,hyl with
  | [y0,y1,y2,y3],_=>
   have g0:DataW.trod enc Tryz.prog W base (fun _=>true) held nn 3 (List.take (Tryz.prog.cellsOf 3) (List.drop 0 [v0,v1,v2,v3,v4,v5]))=some y0:=hf 0 _ rfl;have g1:DataW.trod enc Tryz.prog W base (fun _=>true) held nn 3 (List.take (Tryz.prog.cellsOf 3) (List.drop 1 [v0,v1,v2,v3,v4,v5]))=some y1:=hf 1 _ rfl;have g2:DataW.trod enc Tryz.prog W base (fun _=>true) held nn 23 (List.take (Tryz.prog.cellsOf 23) (List.drop 2 [v0,v1,v2,v3,v4,v5]))=some y2:=hf 2 _ rfl;have g3:DataW.trod enc Tryz.prog W base (fun _=>true) held nn 24 (List.take (Tryz.prog.cellsOf 24) (List.drop 5 [v0,v1,v2,v3,v4,v5]))=some y3:=hf 3 _ rfl;rw [ct3] at g0 g1;rw [ct23] at g2;rw [ct24] at g3;obtain ⟨a,e0,_⟩:=DataW.trod_int Tryz.underlying3 g0;obtain ⟨b,e1,_⟩:=DataW.trod_int Tryz.underlying3 g1;obtain ⟨s,c,g,e2⟩:=open_shape g2;have hw:∀n∈y3.1.weights Tryz.prog 24,n≤reachBytes:=fun n hn=>hsz n (by
    rw [hy];simp only [DataW.weights,Tryz.underlying26,DataW.weightsEach,List.map,List.mem_append];exact Or.inr (Or.inr (Or.inr (Or.inl hn))))
   obtain ⟨oa,xs,cp,e3,h1,h2,h3⟩:=open_rows g3 hw;injection e0 with e0 _;injection e1 with e1 _;injection e2 with e2 e4;injection e4 with e4 e5;injection e5 with e5 _;injection e3 with e3 _;subst e0 e1 e2 e3 e4 e5;exact ⟨a,b,s,c,g,oa,xs,cp,rfl,h1,h2,h3⟩
end
def layRow (l:List Value):Obj→Obj
 | .cells _ t frozen=> .cells l.toArray t frozen
 | o=>o
noncomputable def laidWorld (os:Os):World:=
 {World.holding Tryz.prog os ⟨#[],#[],[]⟩ with heap:=((World.holding Tryz.prog os ⟨#[],#[],[]⟩).heap.modify 0 (layRow (fldZ.map (Value.int .i64)))).modify 1 (layRow (tabZ.map (Value.int .u32)))}
end
end Go.Proofs.YtdjiopacieadpaaGreatDoor
