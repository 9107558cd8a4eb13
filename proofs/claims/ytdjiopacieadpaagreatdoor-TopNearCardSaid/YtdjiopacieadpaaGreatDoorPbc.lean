/- TopNear: part Pbc: SlL SlQ. -/
import Derived.Test.YtdjiopacieadpaaGreatDoorPbb
set_option linter.unusedVariables false
set_option linter.unusedSimpArgs false
set_option maxRecDepth 8000
set_option maxHeartbeats 8000000
namespace Go.Proofs.YtdjiopacieadpaaGreatDoor
section
open Go.RowKit FlatPlain
theorem results_row4 {P:Program}{fn:Func}{p u v x:Tmp}{ty:TypeId}(h:fn.results=#[.cell p ty,.tmp u,.tmp v,.tmp x])(tmps:Array Value)(w:World)(g:Nat)(t:TypeId)(cs:Array Value)(fr:Nat×Nat)(d:TypeDesc)(hp:tmps.getD p undef = .pointer (some ⟨g,0,none⟩))(hg:w.heap[g]?=some (.cells cs t fr))(hu:P.underlying ty=some d)(hd:(match d with | .struct _ | .array _ _=>true | _=>false)=true)(hi:(P.info? ty).map (·.size)=some cs.size):
 (results fn tmps).run P w = .ok (.tuple #[.agg cs,tmps.getD u undef,tmps.getD v undef,tmps.getD x undef]) w:=by
 have hp':tmps[p]?.getD undef = .pointer (some ⟨g,0,none⟩):=by simpa using hp
 simp [results,h,hp',asAddr,run_loadVar_row w g t ty cs fr d hg hu hd hi]
def SlotIs (D:List Nat)(z f k:Nat):Option SlotPlain.Sl→Prop
 | none=>hdOf (cut D (f*z) z) (k*z-z)=none
 | some (g,c,body)=>hdOf (cut D (f*z) z) (k*z-z)=some (g,c,body.length,crcF body)∧cut D (f*z+z) body.length=body
def slG:Option SlotPlain.Sl→Nat | none=>0 | some x=>x.1
def sectC:Option SlotPlain.Sl→Nat | none=>0 | some x=>x.2.1
def slN:Option SlotPlain.Sl→Nat | none=>0 | some x=>x.2.2.length
def slS:Option SlotPlain.Sl→Nat | none=>0 | some x=>crcF x.2.2
theorem SlotIs.head {D:List Nat}{z f k:Nat}{o:Option SlotPlain.Sl}(h:SlotIs D z f k o):hdA (hdOf (cut D (f*z) z) (k*z-z))=hdV (slG o) (sectC o) (slN o) (slS o):=by
 cases o with
 | none=>rw [show hdOf _ _=none from h];rfl
 | some x=>rw [show hdOf _ _=some _ from h.1];rfl
theorem SlotIs.good {D:List Nat}{z f k:Nat}{x:SlotPlain.Sl}(h:SlotIs D z f k (some x)):0<x.1∧x.2.2.length≤k*z-z∧x.2.2.length≤67108864∧cut D (f*z+z) x.2.2.length=x.2.2:=by
 obtain ⟨h1,h2⟩:=h;unfold hdOf at h1;split at h1
 ·rename_i hh;injection h1 with h1;injection h1 with e1 e2;injection e2 with e2 e3;injection e3 with e3 e4;exact ⟨by rw [←e1];exact hh.1.2.2.1,by rw [←e3];exact hh.2,by rw [←e3];exact hh.1.2.2.2,h2⟩
 ·cases h1
def SLoad (oa ob:Option SlotPlain.Sl)(p z k n:Nat)(D:List Nat)(F:Nat→Prop)(c q:Nat)(w:World)(e:Ending)(w':World):Prop:=
 ∃j,Pw w' p z n D F (c+j) q∧j≤k+7∧Kp F w w'∧
  (
   (SlotPlain.pick oa ob=none∧e = .returned (.tuple #[.agg (hdV 0 0 0 0),.slice none 0 0,.int .i64 (-1),.int .i64 0]))∨
   ∃i x v,SlotPlain.pick oa ob=some (i,x)∧i<2∧e = .returned (.tuple #[.agg (hdV x.1 x.2.1 x.2.2.length (crcF x.2.2)),v,.int .i64 i,.int .i64 0])∧w'.ownsRow w.heap.size 5 1 v x.2.2.length (Lb x.2.2))
theorem sload_any (s a b p z k n:Nat)(D:List Nat)(F:Nat→Prop)(c q:Nat)(oa ob:Option SlotPlain.Sl)(w:World)(h:Ss w s a b)(ha:Rg w a p z 0 k)(hb:Rg w b p z k k)(hp:Pw w p z n D F c q)(hoa:SlotIs D z 0 k oa)(hob:SlotIs D z k k ob)(haF:¬F a)(hbF:¬F b)(hsF:¬F s)(hc:c+20000000<1000000000)(hfk:k+k≤n)(hk:2≤k)(hT:Tab w)(hF1:∀b,F b→1<b):
 Calls Tryz.prog 54 #[.pointer (some ⟨s,0,none⟩)] w (SLoad oa ob p z k n D F c q w):=by
 have H:=hid h;have HA:=hid ha;have HB:=hid hb;have HP:=hid hp;have HOA:=hid hoa;have HOB:=hid hob;have HT:=hid hT;have HC:=hid (And.intro hc (And.intro hfk hk));have HFL:=hid hp.flt;have N1:=new1 w (Obj.cells #[.int .u64 0,.int .u64 0,.int .i64 0,.int .u32 0] 88);obtain ⟨w0,hw0⟩:∃w0,w.alloc (Obj.cells #[.int .u64 0,.int .u64 0,.int .i64 0,.int .u32 0] 88)=w0:=⟨_,rfl⟩;have HW0:=hid hw0;rw [hw0] at N1;have HN1:=hid N1;have H0:Ss w0 s a b:=Bl.blk N1.2.2 h;have HS0:=hid H0;have N2:=new1 w0 (Obj.cells #[.int .u64 0,.int .u64 0,.int .i64 0,.int .u32 0,.int .u64 0,.int .u64 0,.int .i64 0,.int .u32 0] 195);obtain ⟨c0,_,c1,_⟩:=cells2 (Bl.blk N2.2.2 H0);have HN2:=hid N2;clear N2 h ha hb hp hoa hob hT hc hfk hk N1 hw0 H0;go_enter Tryz.func54,Tryz.ntmps54;go_wp2_with fail;rw [HW0.out];refine (sthere_any s a b _ HS0.out).mono ?_;rintro e w' ⟨rfl,rfl⟩;go_wp2_with fail;obtain ⟨W0,hW0⟩:∃W0,w0.alloc (Obj.cells #[.int .u64 0,.int .u64 0,.int .i64 0,.int .u32 0,.int .u64 0,.int .u64 0,.int .i64 0,.int .u32 0] 195)=W0:=⟨_,rfl⟩;have hn2:=HN2.out;rw [hW0] at hn2 ⊢;have HN:=hid hn2;clear hn2 c0 c1 hW0 HN2;have i0:∀w9,(Instr.index 165 (.agg #[.pointer (some ⟨a,0,none⟩),.pointer (some ⟨b,0,none⟩)]) (.int .i64 0)).run Tryz.prog w9 = .ok (.agg #[.pointer (some ⟨a,0,none⟩)]) w9:=fun _=>by kernel_rfl
 have i1:∀w9,(Instr.index 165 (.agg #[.pointer (some ⟨a,0,none⟩),.pointer (some ⟨b,0,none⟩)]) (.int .i64 1)).run Tryz.prog w9 = .ok (.agg #[.pointer (some ⟨b,0,none⟩)]) w9:=fun _=>by kernel_rfl
 refine wp_loop_rounds 3 ?_;rw [rounds_succ];go_wp2_with fail;have N3:=new1 W0 (Obj.cells #[.pointer (some ⟨a,0,none⟩)] 164);obtain ⟨W1,hW1⟩:∃W1,W0.alloc (Obj.cells #[.pointer (some ⟨a,0,none⟩)] 164)=W1:=⟨_,rfl⟩;rw [hW1] at N3 ⊢;have hB01:Below w.heap.size w W0:=HN1.out.2.2.trans (HN.out.2.2.mono HN1.out.2.2.size);have hB1:Below w.heap.size w W1:=hB01.trans (N3.2.2.mono hB01.size);have hz01:w.heap.size<w0.heap.size∧w0.heap.size<W0.heap.size:=by have:=HN1.out.2.1;have:=HN.out.2.1;omega
 have HZ01:=hid hz01;have HB1:=hid hB1;have HD1:=hid (Bl.blk N3.2.2 HN.out.1);have HR1:=hid (Bl.blk N3.2.2 (Bl.blk HN.out.2.2 HN1.out.1));clear N3 hW1 hB01 hB1 hz01;have hca:=shead_any a p z 0 k n D F c q _ (HA.out.new HB1.out) (HP.out.new HB1.out) haF (by have:=HC.out;omega) (by have:=HC.out;omega) HC.out.2.2 (HT.out.below HB1.out HT.out.size) hF1;unfold SHead at hca;rw [HOA.out.head] at hca;refine hca.mono ?_;clear hca;rintro e w2 ⟨j1,rfl,hp2,hj1,hk2⟩;have hnF:∀x,w.heap.size≤x→ ¬F x:=fun x hx hF=>by have:=HFL.out x hF;omega
 have HNF:=hid hnF;have HP2:=hid hp2;have HJ1:=hid hj1;have HK2:=hid ((Kp.of_new HB1.out).trans hk2:Kp F w w2);have hd2:=hk2.blk HD1.out (hnF _ (by have:=HZ01.out;omega));have HD2:=hid hd2;have HR2:=hid (hk2.blk HR1.out (hnF _ (Nat.le_refl _)));obtain ⟨g1,c1,n1,s1,e1⟩:∃g1 c1 n1 s1,g1=slG oa∧c1=sectC oa∧n1=slN oa∧s1=slS oa:=⟨_,_,_,_,rfl,rfl,rfl,rfl⟩;rw [←e1.1,←e1.2.1,←e1.2.2.1,←e1.2.2.2];have HE1:=hid e1;unfold hdV;have fr2:∀i,w2.frozen? ⟨w0.heap.size,i,none⟩=false:=(blk hd2).2.1;have ce2:=(blk hd2).1;have k0:w2.cell? ⟨w0.heap.size,0,none⟩=some (.int .u64 0):=ce2 0;have k1:w2.cell? ⟨w0.heap.size,1,none⟩=some (.int .u64 0):=ce2 1;have k2:w2.cell? ⟨w0.heap.size,2,none⟩=some (.int .i64 0):=ce2 2;have k3:w2.cell? ⟨w0.heap.size,3,none⟩=some (.int .u32 0):=ce2 3;have f0:=fr2 0;have f1:=fr2 1;have f2:=fr2 2;have f3:=fr2 3;clear hp2 hj1 hk2 hnF hd2 e1 fr2 ce2;go_wp2_with fail;have hs3:=setVals_heap [.int .u64 g1,.int .u64 c1,.int .i64 n1,.int .u32 s1] w2 0 _ HD2.out;have hk3:=setVals_kp (F:=(· = w0.heap.size)) rfl [.int .u64 g1,.int .u64 c1,.int .i64 n1,.int .u32 s1] _ _ 0 (Kp.refl _ w2);obtain ⟨W3,hW3⟩:∃W3,(((w2.setCell ⟨w0.heap.size,0,none⟩ (.int .u64 g1)).setCell ⟨w0.heap.size,1,none⟩ (.int .u64 c1)).setCell ⟨w0.heap.size,2,none⟩ (.int .i64 n1)).setCell ⟨w0.heap.size,3,none⟩ (.int .u32 s1)=W3:=⟨_,rfl⟩;have hs3':W3.heap[w0.heap.size]?=some (Obj.cells #[.int .u64 g1,.int .u64 c1,.int .i64 n1,.int .u32 s1,.int .u64 0,.int .u64 0,.int .i64 0,.int .u32 0] 195 (0,0)):=by rw [←hW3];exact hs3
 have hk3':Kp (· = w0.heap.size) w2 W3:=by rw [←hW3];exact hk3
 rw [hW3];have HS3:=hid hs3';have HR3:=hid (hk3'.blk HR2.out (by have:=HZ01.out;omega));have hkf:∀{u v:World},Kp (· = w0.heap.size) u v→Kp F w u→Kp F w v:=fun h1 h2=>h2.then h1 (fun x hx=>Or.inr (by have h9:x=w0.heap.size:=hx;have:=HZ01.out;omega))
 have HKF:Hid (∀{u v:World},Kp (· = w0.heap.size) u v→Kp F w u→Kp F w v):=hid hkf;have HK3:=hid (hkf hk3' HK2.out);have HP3:=hid (HP2.out.stay hk3' (fun x hx e=>HNF.out w0.heap.size (by have:=HZ01.out;omega) (by have h9:x=w0.heap.size:=e;rw [←h9];exact hx)));clear hs3 hk3 hs3' hk3' hW3 k0 k1 k2 k3 f0 f1 f2 f3 hkf;rw [rounds_succ];go_wp2_with fail;have N4:=new1 W3 (Obj.cells #[.pointer (some ⟨b,0,none⟩)] 164);obtain ⟨W4,hW4⟩:∃W4,W3.alloc (Obj.cells #[.pointer (some ⟨b,0,none⟩)] 164)=W4:=⟨_,rfl⟩;rw [hW4] at N4 ⊢;have HK4:=hid (HK3.out.trans (Kp.of_new N4.2.2));have HP4:=hid (HP3.out.new N4.2.2);have HS4:=hid (Bl.blk N4.2.2 HS3.out);have HR4:=hid (Bl.blk N4.2.2 HR3.out);clear N4 hW4;have hcb:=shead_any b p z k k n D F (c+j1) q _ (HB.out.kp HK4.out hbF) HP4.out hbF (by have:=HC.out;have:=HJ1.out;omega) (by have:=HC.out;omega) HC.out.2.2 (HT.out.kp HK4.out (fun e=>by have:=hF1 1 e;omega)) hF1;unfold SHead at hcb;rw [HOB.out.head] at hcb;refine hcb.mono ?_;clear hcb;rintro e w5 ⟨j2,rfl,hp5,hj2,hk5⟩;have HP5:=hid hp5;have HJ2:=hid hj2;have HK5:=hid (HK4.out.trans hk5:Kp F w w5);have hd5:=hk5.blk HS4.out (HNF.out _ (by have:=HZ01.out;omega));have HD5:=hid hd5;have HR5:=hid (hk5.blk HR4.out (HNF.out _ (Nat.le_refl _)));obtain ⟨g2,c2,n2,s2,e2⟩:∃g2 c2 n2 s2,g2=slG ob∧c2=sectC ob∧n2=slN ob∧s2=slS ob:=⟨_,_,_,_,rfl,rfl,rfl,rfl⟩;rw [←e2.1,←e2.2.1,←e2.2.2.1,←e2.2.2.2];have HE2:=hid e2;unfold hdV;have fr5:∀i,w5.frozen? ⟨w0.heap.size,i,none⟩=false:=(blk hd5).2.1;have ce5:=(blk hd5).1;have k4:w5.cell? ⟨w0.heap.size,4,none⟩=some (.int .u64 0):=ce5 4;have k5:w5.cell? ⟨w0.heap.size,5,none⟩=some (.int .u64 0):=ce5 5;have k6:w5.cell? ⟨w0.heap.size,6,none⟩=some (.int .i64 0):=ce5 6;have k7:w5.cell? ⟨w0.heap.size,7,none⟩=some (.int .u32 0):=ce5 7;have f4:=fr5 4;have f5:=fr5 5;have f6:=fr5 6;have f7:=fr5 7;clear hp5 hj2 hk5 hd5 e2 fr5 ce5;go_wp2_with fail;have hs6:=setVals_heap [.int .u64 g2,.int .u64 c2,.int .i64 n2,.int .u32 s2] w5 4 _ HD5.out;have hk6:=setVals_kp (F:=(· = w0.heap.size)) rfl [.int .u64 g2,.int .u64 c2,.int .i64 n2,.int .u32 s2] _ _ 4 (Kp.refl _ w5);obtain ⟨W6,hW6⟩:∃W6,(((w5.setCell ⟨w0.heap.size,4,none⟩ (.int .u64 g2)).setCell ⟨w0.heap.size,5,none⟩ (.int .u64 c2)).setCell ⟨w0.heap.size,6,none⟩ (.int .i64 n2)).setCell ⟨w0.heap.size,7,none⟩ (.int .u32 s2)=W6:=⟨_,rfl⟩;have hs6':W6.heap[w0.heap.size]?=some (Obj.cells #[.int .u64 g1,.int .u64 c1,.int .i64 n1,.int .u32 s1,.int .u64 g2,.int .u64 c2,.int .i64 n2,.int .u32 s2] 195 (0,0)):=by rw [←hW6];exact hs6
 have hk6':Kp (· = w0.heap.size) w5 W6:=by rw [←hW6];exact hk6
 rw [hW6];have HR6:=hid (hk6'.blk HR5.out (by have:=HZ01.out;omega));have HK6:=hid (HKF.out hk6' HK5.out);have HP6:=hid (HP5.out.stay hk6' (fun x hx e=>HNF.out w0.heap.size (by have:=HZ01.out;omega) (by have h9:x=w0.heap.size:=e;rw [←h9];exact hx)));have N7:=new1 W6 (Obj.cells #[.int .i64 0,.int .i64 1] 197);have HS6:=hid hs6';have ce6:=(blk (Bl.blk N7.2.2 hs6')).1;have h0:(W6.alloc (Obj.cells #[.int .i64 0,.int .i64 1] 197)).cell? ⟨w0.heap.size,0,none⟩=some (.int .u64 g1):=ce6 0;have h4:(W6.alloc (Obj.cells #[.int .i64 0,.int .i64 1] 197)).cell? ⟨w0.heap.size,4,none⟩=some (.int .u64 g2):=ce6 4;clear hs6 hk6 hs6' hk6' hW6 k4 k5 k6 k7 f4 f5 f6 f7 ce6 i0 i1;rw [rounds_succ];have o00:∀w9,(Instr.index 197 (.agg #[.int .i64 0,.int .i64 1]) (.int .i64 0)).run Tryz.prog w9 = .ok (.int .i64 0) w9:=fun _=>by kernel_rfl
 have o01:∀w9,(Instr.index 197 (.agg #[.int .i64 0,.int .i64 1]) (.int .i64 1)).run Tryz.prog w9 = .ok (.int .i64 1) w9:=fun _=>by kernel_rfl
 have o10:∀w9,(Instr.index 197 (.agg #[.int .i64 1,.int .i64 0]) (.int .i64 0)).run Tryz.prog w9 = .ok (.int .i64 1) w9:=fun _=>by kernel_rfl
 by_cases hgt:g1<g2
 ·have hgI:(g1:Int)<(g2:Int):=by omega
  go_wp2_with fail;have N7':=new1 W6 (Obj.cells #[.int .i64 1,.int .i64 0] 197);obtain ⟨W7,hW7⟩:∃W7,W6.alloc (Obj.cells #[.int .i64 1,.int .i64 0] 197)=W7:=⟨_,rfl⟩;rw [hW7] at N7' ⊢;have HK7:=hid (HK6.out.trans (Kp.of_new N7'.2.2):Kp F w W7);have HP7:=hid (HP6.out.new N7'.2.2);have hd7:=Bl.blk N7'.2.2 HS6.out;have HD7:=hid hd7;have HR7:=hid (Bl.blk N7'.2.2 HR6.out);have hs7:Ss W7 s a b:=HK7.out.blk H.out hsF;have HS7:=hid hs7;have HX7:=hid (HB.out.kp HK7.out hbF);have cs7:W7.cell? ⟨s,1,none⟩=some (.pointer (some ⟨b,0,none⟩)):=(blk hs7).1 1;have cg7:W7.cell? ⟨w0.heap.size,4,none⟩=some (.int .u64 g2):=(blk hd7).1 4;have cn7:W7.cell? ⟨w0.heap.size,6,none⟩=some (.int .i64 n2):=(blk hd7).1 6;clear N7' hW7 hd7 hs7 h0 h4 N7;refine wp_loop_rounds 3 ?_;rw [rounds_succ];have gz:(((g2:Nat):Int) == 0)=false:=by simp;omega
  go_wp2_with fail;have C69:Hid (∀m,Calls Tryz.prog 69 #[.pointer (some ⟨b,0,none⟩)] (W7.drewN m) fun e w'=>e = .returned (.int .i64 z)∧W7.drewN m=w'):=hid (fun m=>rsize_any b p z k k _ (HX7.out.new (below_drewN (Below.refl _ _) m)));obtain ⟨ox,hox⟩:∃ox,ob=some ox:=by
   cases e9:ob with
   | none=>have:=HE2.out.1;rw [e9] at this;simp [slG] at this;omega
   | some x=>exact ⟨x,rfl⟩
  have hgd:=HOB.out;rw [hox] at hgd;have HGD:=hid hgd.good;have en:n2=ox.2.2.length:=by have:=HE2.out.2.2.1;rw [hox] at this;exact this
  have ec:c2=ox.2.1:=by have:=HE2.out.2.1;rw [hox] at this;exact this
  have eg:g2=ox.1:=by have:=HE2.out.1;rw [hox] at this;exact this
  have es:s2=crcF ox.2.2:=by have:=HE2.out.2.2.2;rw [hox] at this;exact this
  have HEN:=hid (And.intro en (And.intro ec (And.intro eg es)));have HOX:=hid hox;clear hgd en ec eg es hox;have C105:Hid (∀m,Calls Tryz.prog 105 #[.pointer (some ⟨b,0,none⟩),.int .i64 z,.int .i64 n2] (W7.drewN m) fun e w'=> ∃va vc j,e = .returned (.tuple #[.slice va n2 vc,.int .i64 0])∧w'.ownsRow w.heap.size 5 1 (.slice va n2 vc) ox.2.2.length (Lb ox.2.2)∧Pw w' p z n D F (c+j1+j2+j) q∧j≤k+1∧Kp F W7 w'∧(w'.cell? ⟨s,1,none⟩=some (.pointer (some ⟨b,0,none⟩))∧w'.cell? ⟨w0.heap.size,6,none⟩=some (.int .i64 n2))):=hid (by
   intro m;obtain ⟨y1,y2,y3,y4⟩:=HGD.out;obtain ⟨z1,z2,z3⟩:=HC.out;have hzz:=HP.out.hz;have n96:=HP.out.n96;have hkz:2*z≤k*z:=Nat.mul_le_mul_right _ z3;have hbm:=below_drewN (Below.refl W7.heap.size W7) m;have hj1:=HJ1.out;have hj2:=HJ2.out;rw [HEN.out.1];refine (rread_any b p z k k n D F (c+j1+j2) q z ox.2.2.length _ (HX7.out.new hbm) (HP7.out.new hbm) hbF (by omega) (by omega) (by omega)).mono ?_;rintro e w' ⟨v',j,rfl,ho,hp',hj,hk'⟩;obtain ⟨va,vc,rfl,_,_⟩:=own_form ho;rw [y4] at ho;have hk2:Kp F W7 w':=((Kp.refl F W7).drewN m).trans hk';have hdz:ox.2.2.length / z≤k-1:=by
    have:ox.2.2.length / z≤(k*z-z) / z:=Nat.div_le_div_right y2;rw [show k*z-z=(k-1)*z by rw [Nat.sub_mul];omega,Nat.mul_div_cancel _ (by omega)] at this;exact this
   refine ⟨va,vc,j,rfl,own_mono ho (by have:=HK7.out.size;have:=hbm.size;omega),hp',by omega,hk2,?_,?_⟩
   ·exact (blk (hk2.blk HS7.out hsF)).1 1
   ·rw [←HEN.out.1];exact (blk (hk2.blk HD7.out (HNF.out _ (by have:=HZ01.out;omega)))).1 6)
  go_region_held_law (fun w'=>w'.cell? ⟨s,1,none⟩=some (.pointer (some ⟨b,0,none⟩))∧w'.cell? ⟨w0.heap.size,6,none⟩=some (.int .i64 n2)) (first | assumption | go_keep) (first | (go_at_call 69;refine (C69.out 1).mono ?_;rintro e w' ⟨rfl,rfl⟩) | (go_at_call 105;refine (C105.out 1).mono ?_;rintro e w8 ⟨va,vc,j3,rfl,q1,q2,q3,q4,q5⟩;have Q1:=hid q1;have Q2:=hid q2;have Q3:=hid q3;have Q4:=hid q4;clear q1 q2 q3 q4))
  all_goals
   have HK8:=hid (HK7.out.trans Q4.out:Kp F w w8);have hd8:=Q4.out.blk HD7.out (HNF.out _ (by have:=HZ01.out;omega));have HD8:=hid hd8;have HR8:=hid (Q4.out.blk HR7.out (HNF.out _ (Nat.le_refl _)));have ck8:w8.cell? ⟨w0.heap.size,7,none⟩=some (.int .u32 s2):=(blk hd8).1 7;have C67:Hid (∀m,Calls Tryz.prog 67 #[.slice va n2 vc] (w8.drewN m) fun e w'=>e = .returned (.int .u32 s2)∧w8.drewN m=w'):=hid (by
    intro m;rw [HEN.out.2.2.2];exact sum_any _ ox.2.2 _ (Sl_below (Sl_of_own Q1.out) (below_drewN (Below.refl _ _) m) (Nat.le_refl _)) (by rw [←HGD.out.2.2.2];intro y hy;exact HP.out.bs y (List.mem_of_mem_drop (List.mem_of_mem_take hy))) ((HT.out.kp HK8.out (fun e=>by have:=hF1 1 e;omega)).below (below_drewN (Below.refl _ _) m) (by have:=HT.out.size;have:=HK8.out.size;omega)))
   clear hd8 q5;go_wp2_with fail;go_quiet ((go_at_call 67;exact Calls.quiet_of_same ((C67.out _).mono (fun _ _ h=>⟨h.1,h.2.symm⟩))))
   have hb9:=below_drewN (Below.refl w8.heap.size w8) nq;obtain ⟨W9,hW9⟩:∃W9,w8.drewN nq=W9:=⟨_,rfl⟩;rw [hW9] at hb9 ⊢;have HB9:=hid hb9;have hd9:=(blk (Bl.blk hb9 HD8.out)).1;have t0:W9.cell? ⟨w0.heap.size,4,none⟩=some (.int .u64 g2):=hd9 4;have t1:W9.cell? ⟨w0.heap.size,5,none⟩=some (.int .u64 c2):=hd9 5;have t2:W9.cell? ⟨w0.heap.size,6,none⟩=some (.int .i64 n2):=hd9 6;have t3:W9.cell? ⟨w0.heap.size,7,none⟩=some (.int .u32 s2):=hd9 7;have hr9:=Bl.blk hb9 HR8.out;have HR9:=hid hr9;obtain ⟨u0,v0,u1,v1,u2,v2,u3,v3⟩:=cells4 hr9;clear hb9 hd9 hr9 hW9;go_wp2_with fail;refine bodyPost_ret (results_row4 rfl _ _ _ _ _ _ _ rfl (rset4 HR9.out) Tryz.underlying88 rfl (by kernel_rfl)) rfl ?_;have hkr:=rset4_kp (Kp.refl (· = w.heap.size) W9) rfl (.int .u64 g2) (.int .u64 c2) (.int .i64 n2) (.int .u32 s2);refine ⟨j1+j2+j3,?_,?_,(HK8.out.trans (Kp.of_new HB9.out)).then hkr (fun x hx=>Or.inr (by have h9:x=w.heap.size:=hx;omega)),Or.inr ⟨1,ox,.slice va n2 vc,?_,by omega,?_,?_⟩⟩
   ·rw [show c+(j1+j2+j3)=c+j1+j2+j3 by omega];exact (Q2.out.new HB9.out).stay hkr (fun x hx e=>HNF.out w.heap.size (Nat.le_refl _) (by have h9:x=w.heap.size:=e;rw [←h9];exact hx))
   ·have:=HJ1.out;have:=HJ2.out;have:=Q3.out;have:=HC.out;omega
   ·rw [HOX.out];unfold SlotPlain.pick;cases hO:oa with
    | none=>rfl
    | some y=>
     have h1:=HE1.out.1;have h2:=HE2.out.1;rw [HOX.out] at h2;rw [hO] at h1;simp only [slG] at h1 h2;show (if _ then _ else _)=_
     rw [if_pos (by omega)]
   ·unfold hdV;rw [←HEN.out.1,←HEN.out.2.1,←HEN.out.2.2.1,←HEN.out.2.2.2];rfl
   ·refine own_kp (own_below Q1.out HB9.out (Nat.le_refl _)) hkr (fun x hx e=>?_);obtain ⟨C9,hC9⟩:=own_ty Q1.out hx;have h9:x=w.heap.size:=e;rw [h9] at hC9;exact ty_ne hC9 HR8.out (by decide) rfl
 ·have hgI:¬(g1:Int)<(g2:Int):=by omega
  by_cases hg0:0<g1
  ·go_wp2_with fail;have N7':=new1 W6 (Obj.cells #[.int .i64 0,.int .i64 1] 197);obtain ⟨W7,hW7⟩:∃W7,W6.alloc (Obj.cells #[.int .i64 0,.int .i64 1] 197)=W7:=⟨_,rfl⟩;rw [hW7] at N7' ⊢;have HK7:=hid (HK6.out.trans (Kp.of_new N7'.2.2):Kp F w W7);have HP7:=hid (HP6.out.new N7'.2.2);have hd7:=Bl.blk N7'.2.2 HS6.out;have HD7:=hid hd7;have HR7:=hid (Bl.blk N7'.2.2 HR6.out);have hs7:Ss W7 s a b:=HK7.out.blk H.out hsF;have HS7:=hid hs7;have HX7:=hid (HA.out.kp HK7.out haF);have cs7:W7.cell? ⟨s,0,none⟩=some (.pointer (some ⟨a,0,none⟩)):=(blk hs7).1 0;have cg7:W7.cell? ⟨w0.heap.size,0,none⟩=some (.int .u64 g1):=(blk hd7).1 0;have cn7:W7.cell? ⟨w0.heap.size,2,none⟩=some (.int .i64 n1):=(blk hd7).1 2;clear N7' hW7 hd7 hs7 h0 h4 N7;refine wp_loop_rounds 3 ?_;rw [rounds_succ];have gz:(((g1:Nat):Int) == 0)=false:=by simp;omega
   go_wp2_with fail;have C69:Hid (∀m,Calls Tryz.prog 69 #[.pointer (some ⟨a,0,none⟩)] (W7.drewN m) fun e w'=>e = .returned (.int .i64 z)∧W7.drewN m=w'):=hid (fun m=>rsize_any a p z 0 k _ (HX7.out.new (below_drewN (Below.refl _ _) m)));obtain ⟨ox,hox⟩:∃ox,oa=some ox:=by
    cases e9:oa with
    | none=>have:=HE1.out.1;rw [e9] at this;simp [slG] at this;omega
    | some x=>exact ⟨x,rfl⟩
   have hgd:=HOA.out;rw [hox] at hgd;have HGD:=hid hgd.good;have en:n1=ox.2.2.length:=by have:=HE1.out.2.2.1;rw [hox] at this;exact this
   have ec:c1=ox.2.1:=by have:=HE1.out.2.1;rw [hox] at this;exact this
   have eg:g1=ox.1:=by have:=HE1.out.1;rw [hox] at this;exact this
   have es:s1=crcF ox.2.2:=by have:=HE1.out.2.2.2;rw [hox] at this;exact this
   have HEN:=hid (And.intro en (And.intro ec (And.intro eg es)));have HOX:=hid hox;clear hgd en ec eg es hox;have C105:Hid (∀m,Calls Tryz.prog 105 #[.pointer (some ⟨a,0,none⟩),.int .i64 z,.int .i64 n1] (W7.drewN m) fun e w'=> ∃va vc j,e = .returned (.tuple #[.slice va n1 vc,.int .i64 0])∧w'.ownsRow w.heap.size 5 1 (.slice va n1 vc) ox.2.2.length (Lb ox.2.2)∧Pw w' p z n D F (c+j1+j2+j) q∧j≤k+1∧Kp F W7 w'∧(w'.cell? ⟨s,0,none⟩=some (.pointer (some ⟨a,0,none⟩))∧w'.cell? ⟨w0.heap.size,2,none⟩=some (.int .i64 n1))):=hid (by
    intro m;obtain ⟨y1,y2,y3,y4⟩:=HGD.out;obtain ⟨z1,z2,z3⟩:=HC.out;have hzz:=HP.out.hz;have n96:=HP.out.n96;have hkz:2*z≤k*z:=Nat.mul_le_mul_right _ z3;have hbm:=below_drewN (Below.refl W7.heap.size W7) m;have hj1:=HJ1.out;have hj2:=HJ2.out;rw [HEN.out.1];refine (rread_any a p z 0 k n D F (c+j1+j2) q z ox.2.2.length _ (HX7.out.new hbm) (HP7.out.new hbm) haF (by omega) (by omega) (by omega)).mono ?_;rintro e w' ⟨v',j,rfl,ho,hp',hj,hk'⟩;obtain ⟨va,vc,rfl,_,_⟩:=own_form ho;rw [y4] at ho;have hk2:Kp F W7 w':=((Kp.refl F W7).drewN m).trans hk';have hdz:ox.2.2.length / z≤k-1:=by
     have:ox.2.2.length / z≤(k*z-z) / z:=Nat.div_le_div_right y2;rw [show k*z-z=(k-1)*z by rw [Nat.sub_mul];omega,Nat.mul_div_cancel _ (by omega)] at this;exact this
    refine ⟨va,vc,j,rfl,own_mono ho (by have:=HK7.out.size;have:=hbm.size;omega),hp',by omega,hk2,?_,?_⟩
    ·exact (blk (hk2.blk HS7.out hsF)).1 0
    ·rw [←HEN.out.1];exact (blk (hk2.blk HD7.out (HNF.out _ (by have:=HZ01.out;omega)))).1 2)
   go_region_held_law (fun w'=>w'.cell? ⟨s,0,none⟩=some (.pointer (some ⟨a,0,none⟩))∧w'.cell? ⟨w0.heap.size,2,none⟩=some (.int .i64 n1)) (first | assumption | go_keep) (first | (go_at_call 69;refine (C69.out 1).mono ?_;rintro e w' ⟨rfl,rfl⟩) | (go_at_call 105;refine (C105.out 1).mono ?_;rintro e w8 ⟨va,vc,j3,rfl,q1,q2,q3,q4,q5⟩;have Q1:=hid q1;have Q2:=hid q2;have Q3:=hid q3;have Q4:=hid q4;clear q1 q2 q3 q4))
   all_goals
    have HK8:=hid (HK7.out.trans Q4.out:Kp F w w8);have hd8:=Q4.out.blk HD7.out (HNF.out _ (by have:=HZ01.out;omega));have HD8:=hid hd8;have HR8:=hid (Q4.out.blk HR7.out (HNF.out _ (Nat.le_refl _)));have ck8:w8.cell? ⟨w0.heap.size,3,none⟩=some (.int .u32 s1):=(blk hd8).1 3;have C67:Hid (∀m,Calls Tryz.prog 67 #[.slice va n1 vc] (w8.drewN m) fun e w'=>e = .returned (.int .u32 s1)∧w8.drewN m=w'):=hid (by
     intro m;rw [HEN.out.2.2.2];exact sum_any _ ox.2.2 _ (Sl_below (Sl_of_own Q1.out) (below_drewN (Below.refl _ _) m) (Nat.le_refl _)) (by rw [←HGD.out.2.2.2];intro y hy;exact HP.out.bs y (List.mem_of_mem_drop (List.mem_of_mem_take hy))) ((HT.out.kp HK8.out (fun e=>by have:=hF1 1 e;omega)).below (below_drewN (Below.refl _ _) m) (by have:=HT.out.size;have:=HK8.out.size;omega)))
    clear hd8 q5;go_wp2_with fail;go_quiet ((go_at_call 67;exact Calls.quiet_of_same ((C67.out _).mono (fun _ _ h=>⟨h.1,h.2.symm⟩))))
    have hb9:=below_drewN (Below.refl w8.heap.size w8) nq;obtain ⟨W9,hW9⟩:∃W9,w8.drewN nq=W9:=⟨_,rfl⟩;rw [hW9] at hb9 ⊢;have HB9:=hid hb9;have hd9:=(blk (Bl.blk hb9 HD8.out)).1;have t0:W9.cell? ⟨w0.heap.size,0,none⟩=some (.int .u64 g1):=hd9 0;have t1:W9.cell? ⟨w0.heap.size,1,none⟩=some (.int .u64 c1):=hd9 1;have t2:W9.cell? ⟨w0.heap.size,2,none⟩=some (.int .i64 n1):=hd9 2;have t3:W9.cell? ⟨w0.heap.size,3,none⟩=some (.int .u32 s1):=hd9 3;have hr9:=Bl.blk hb9 HR8.out;have HR9:=hid hr9;obtain ⟨u0,v0,u1,v1,u2,v2,u3,v3⟩:=cells4 hr9;clear hb9 hd9 hr9 hW9;go_wp2_with fail;refine bodyPost_ret (results_row4 rfl _ _ _ _ _ _ _ rfl (rset4 HR9.out) Tryz.underlying88 rfl (by kernel_rfl)) rfl ?_;have hkr:=rset4_kp (Kp.refl (· = w.heap.size) W9) rfl (.int .u64 g1) (.int .u64 c1) (.int .i64 n1) (.int .u32 s1);refine ⟨j1+j2+j3,?_,?_,(HK8.out.trans (Kp.of_new HB9.out)).then hkr (fun x hx=>Or.inr (by have h9:x=w.heap.size:=hx;omega)),Or.inr ⟨0,ox,.slice va n1 vc,?_,by omega,?_,?_⟩⟩
    ·rw [show c+(j1+j2+j3)=c+j1+j2+j3 by omega];exact (Q2.out.new HB9.out).stay hkr (fun x hx e=>HNF.out w.heap.size (Nat.le_refl _) (by have h9:x=w.heap.size:=e;rw [←h9];exact hx))
    ·have:=HJ1.out;have:=HJ2.out;have:=Q3.out;have:=HC.out;omega
    ·rw [HOX.out];unfold SlotPlain.pick;cases hO:ob with
     | none=>rfl
     | some y=>
      have h1:=HE1.out.1;have h2:=HE2.out.1;rw [HOX.out] at h1;rw [hO] at h2;simp only [slG] at h1 h2;show (if _ then _ else _)=_
      rw [if_neg (by omega)]
    ·unfold hdV;rw [←HEN.out.1,←HEN.out.2.1,←HEN.out.2.2.1,←HEN.out.2.2.2];rfl
    ·refine own_kp (own_below Q1.out HB9.out (Nat.le_refl _)) hkr (fun x hx e=>?_);obtain ⟨C9,hC9⟩:=own_ty Q1.out hx;have h9:x=w.heap.size:=e;rw [h9] at hC9;exact ty_ne hC9 HR8.out (by decide) rfl
  ·obtain rfl:g1=0:=by omega
   obtain rfl:g2=0:=by omega
   have N7':=new1 W6 (Obj.cells #[.int .i64 0,.int .i64 1] 197);go_wp2_with fail;obtain ⟨W7,hW7⟩:∃W7,W6.alloc (Obj.cells #[.int .i64 0,.int .i64 1] 197)=W7:=⟨_,rfl⟩;rw [hW7] at N7' h0 h4 ⊢;have HB7:=hid N7'.2.2;have hr7:=Bl.blk N7'.2.2 HR6.out;have HR7:=hid hr7;obtain ⟨u0,v0,u1,v1,u2,v2,u3,v3⟩:=cells4 hr7;clear N7' N7 hr7 hW7;refine wp_loop_rounds 3 ?_;rw [rounds_succ];go_wp2_with fail;rw [rounds_succ];go_wp2_with fail;rw [rounds_succ];go_wp2_with fail;refine bodyPost_ret (results_row4 rfl _ _ _ _ _ _ _ rfl (rset4 HR7.out) Tryz.underlying88 rfl (by kernel_rfl)) rfl ?_;have hkr:=rset4_kp (Kp.refl (· = w.heap.size) W7) rfl (.int .u64 0) (.int .u64 0) (.int .i64 0) (.int .u32 0);refine ⟨j1+j2,?_,?_,(HK6.out.trans (Kp.of_new HB7.out)).then hkr (fun x hx=>Or.inr (by have h9:x=w.heap.size:=hx;omega)),Or.inl ⟨?_,rfl⟩⟩
   ·rw [show c+(j1+j2)=c+j1+j2 by omega];exact (HP6.out.new HB7.out).stay hkr (fun x hx e=>HNF.out w.heap.size (Nat.le_refl _) (by have h9:x=w.heap.size:=e;rw [←h9];exact hx))
   ·have:=HJ1.out;have:=HJ2.out;have:=HC.out;omega
   ·have h1:=HE1.out.1;have h2:=HE2.out.1;have ha:=HOA.out;have hb:=HOB.out;cases hA:oa with
    | some x=>rw [hA] at ha h1;have:=ha.good.1;simp only [slG] at h1;omega
    | none=>
     cases hB:ob with
     | some y=>rw [hB] at hb h2;have:=hb.good.1;simp only [slG] at h2;omega
     | none=>rfl
theorem hd_take (g c n s:Nat)(r:List Nat):(hd32 g c n s++r).take 28=hd28 g c n s:=by
 unfold hd32;rw [List.append_assoc,List.take_append_of_le_length (by rw [hd28_len];omega),List.take_of_length_le (by rw [hd28_len];omega)]
theorem hd_piece {a b c:List Nat}{i n:Nat}(hi:a.length=i)(hn:b.length=n):((a++(b++c)).drop i).take n=b:=by
 rw [List.drop_append_of_le_length (by omega),List.drop_eq_nil_of_le (by omega),List.nil_append,List.take_append_of_le_length (by omega),List.take_of_length_le (by omega)]
theorem hd_parts (g c n s:Nat)(r:List Nat)(hg:g<18446744073709551616)(hc:c<18446744073709551616)(hn:n<4294967296)(hs:s<4294967296):
 (hd32 g c n s++r).take 4=markL∧hdG (hd32 g c n s++r)=g∧hdC (hd32 g c n s++r)=c∧hdN (hd32 g c n s++r)=n∧hdS (hd32 g c n s++r)=s∧hdK (hd32 g c n s++r)=crcF (hd28 g c n s):=by
 have e8:(256:Nat) ^ 8=18446744073709551616:=by decide
 have e4:(256:Nat) ^ 4=4294967296:=by decide
 have cr:=crcF_lt (hd28 g c n s);refine ⟨?_,?_,?_,?_,?_,?_⟩
 ·unfold hd32 hd28;simp only [List.append_assoc];rfl
 ·unfold hdG;have:hd32 g c n s++r=markL++(le g 8++(le c 8++le n 4++le s 4++le (crcF (hd28 g c n s)) 4++r)):=by unfold hd32;simp [hd28]
  rw [this,hd_piece (show markL.length=4 from rfl) (le_len _ _),ofLe_le,e8,Nat.mod_eq_of_lt hg]
 ·unfold hdC;have:hd32 g c n s++r=(markL++le g 8)++(le c 8++(le n 4++le s 4++le (crcF (hd28 g c n s)) 4++r)):=by unfold hd32;simp [hd28]
  rw [this,hd_piece (by simp [le_len,markL]) (le_len _ _),ofLe_le,e8,Nat.mod_eq_of_lt hc]
 ·unfold hdN;have:hd32 g c n s++r=(markL++le g 8++le c 8)++(le n 4++(le s 4++le (crcF (hd28 g c n s)) 4++r)):=by unfold hd32;simp [hd28]
  rw [this,hd_piece (by simp [le_len,markL]) (le_len _ _),ofLe_le,e4,Nat.mod_eq_of_lt hn]
 ·unfold hdS;have:hd32 g c n s++r=(markL++le g 8++le c 8++le n 4)++(le s 4++(le (crcF (hd28 g c n s)) 4++r)):=by unfold hd32;simp [hd28]
  rw [this,hd_piece (by simp [le_len,markL]) (le_len _ _),ofLe_le,e4,Nat.mod_eq_of_lt hs]
 ·unfold hdK;have:hd32 g c n s++r=hd28 g c n s++(le (crcF (hd28 g c n s)) 4++r):=by unfold hd32;simp
  rw [this,hd_piece (hd28_len _ _ _ _) (le_len _ _),ofLe_le,e4,Nat.mod_eq_of_lt cr]
def sectF (z g c:Nat)(body:List Nat):List Nat:=hd32 g c body.length (crcF body)++List.replicate (z-32) 0
theorem sectF_len {z:Nat}(hz:64≤z)(g c:Nat)(body:List Nat):(sectF z g c body).length = z:=by unfold sectF;rw [List.length_append,hd32_len,List.length_replicate];omega
theorem sectF_bytes (z g c:Nat)(body:List Nat):Bs (sectF z g c body):=Bs_app (hd32_bytes _ _ _ _) (fun x hx=>by have:=List.eq_of_mem_replicate hx;omega)
theorem sectF_hd {z g c m:Nat}{body:List Nat}(hg0:0<g)(hg:g<18446744073709551616)(hc:c<18446744073709551616)(hl:body.length≤67108864)(hm:body.length≤m):hdOf (sectF z g c body) m=some (g,c,body.length,crcF body):=by
 obtain ⟨h1,h2,h3,h4,h5,h6⟩:=hd_parts g c body.length (crcF body) (List.replicate (z-32) 0) hg hc (by omega) (crcF_lt _);have h7:=hd_take g c body.length (crcF body) (List.replicate (z-32) 0);unfold hdOf sectF;rw [if_pos ⟨⟨h1,by rw [h6,h7],by rw [h2];exact hg0,by rw [h4];exact hl⟩,by rw [h4];exact hm⟩,h2,h3,h4,h5]
def saveD (D:List Nat)(z f g c:Nat)(body:List Nat):List Nat:=patch (patch D (f*z+z) body) (f*z) (sectF z g c body)
theorem saveD_len {D:List Nat}{z f k g c n:Nat}{body:List Nat}(hz:64≤z)(hD:D.length=n*z)(hk:2≤k)(hf:f+k≤n)(hb:body.length≤k*z-z):(saveD D z f g c body).length = n*z∧f*z+k*z≤n*z∧2*z≤k*z:=by
 have h1:(f+k)*z≤n*z:=Nat.mul_le_mul_right _ hf;have h2:2*z≤k*z:=Nat.mul_le_mul_right _ hk;rw [Nat.add_mul] at h1;have hs:=sectF_len hz g c body;unfold saveD;refine ⟨?_,h1,h2⟩;rw [patch_len (by rw [patch_len (by omega),hs];omega),patch_len (by omega),hD]
theorem saveD_same {D:List Nat}{z f k g c n:Nat}{body:List Nat}(hz:64≤z)(hD:D.length=n*z)(hk:2≤k)(hf:f+k≤n)(hb:body.length≤k*z-z)(hg0:0<g)(hg:g<18446744073709551616)(hc:c<18446744073709551616)(hl:body.length≤67108864):
 SlotIs (saveD D z f g c body) z f k (some (g,c,body)):=by
 obtain ⟨_,h1,h2⟩:=saveD_len (g:=g) (c:=c) hz hD hk hf hb;have hs:=sectF_len hz g c body;have hpl:(patch D (f*z+z) body).length = D.length:=patch_len (by omega);have e1:cut (saveD D z f g c body) (f*z) z=sectF z g c body:=by
  have:=cut_patch_same (B:=patch D (f*z+z) body) (b:=sectF z g c body) (p:=f*z) (by rw [hs,hpl];omega);rw [hs] at this;exact this
 refine ⟨by rw [e1];exact sectF_hd hg0 hg hc hl hb,?_⟩;unfold saveD;rw [cut_patch_other (by rw [hs,hpl];omega) (by rw [hs];omega)];exact cut_patch_same (by omega)
theorem saveD_other {D:List Nat}{z f k g c n p m:Nat}{body:List Nat}(hz:64≤z)(hD:D.length=n*z)(hk:2≤k)(hf:f+k≤n)(hb:body.length≤k*z-z)(hp:p+m≤f*z∨f*z+k*z≤p):cut (saveD D z f g c body) p m=cut D p m:=by
 obtain ⟨_,h1,h2⟩:=saveD_len (g:=g) (c:=c) hz hD hk hf hb;have hs:=sectF_len hz g c body;have hpl:(patch D (f*z+z) body).length = D.length:=patch_len (by omega);unfold saveD;rw [cut_patch_other (by rw [hs,hpl];omega) (by rw [hs];omega),cut_patch_other (by omega) (by omega)]
theorem SlotIs.move {D D':List Nat}{z f k:Nat}{o:Option SlotPlain.Sl}(h:SlotIs D z f k o)(hk:2≤k)(he:∀p m,f*z≤p→p+m≤f*z+k*z→cut D' p m=cut D p m):SlotIs D' z f k o:=by
 have h2:2*z≤k*z:=Nat.mul_le_mul_right _ hk;cases o with
 | none=>
  show hdOf _ _=none
  rw [he _ _ (Nat.le_refl _) (by omega)];exact h
 | some x=>
  obtain ⟨g,c,body⟩:=x;have hg:body.length≤k*z-z:=h.good.2.1;refine ⟨?_,?_⟩
  ·rw [he _ _ (Nat.le_refl _) (by omega)];exact h.1
  ·rw [he (f*z+z) body.length (by omega) (by omega)];exact h.2
theorem other_le (a b:Option SlotPlain.Sl):SlotPlain.other a b≤1:=by unfold SlotPlain.other;split<;>omega
def nextF (k:Nat)(oa ob:Option SlotPlain.Sl):Nat:=if SlotPlain.other oa ob=0 then 0 else k
theorem saved_slots {D:List Nat}{z k n c:Nat}{body:List Nat}{oa ob:Option SlotPlain.Sl}(hz:64≤z)(hD:D.length=n*z)(hk:2≤k)(hf:k+k≤n)(hb:body.length≤k*z-z)(hg:SlotPlain.gen oa ob+1<18446744073709551616)(hc:c<18446744073709551616)(hl:body.length≤67108864)(ha:SlotIs D z 0 k oa)(hb2:SlotIs D z k k ob):
 SlotIs (saveD D z (nextF k oa ob) (SlotPlain.gen oa ob+1) c body) z 0 k (SlotPlain.saved oa ob c body).1∧SlotIs (saveD D z (nextF k oa ob) (SlotPlain.gen oa ob+1) c body) z k k (SlotPlain.saved oa ob c body).2:=by
 unfold nextF SlotPlain.saved;split
 ·refine ⟨saveD_same hz hD hk (by omega) hb (by omega) hg hc hl,hb2.move hk (fun p m h1 h2=>saveD_other (k:=k) hz hD hk (by omega) hb (Or.inr (by omega)))⟩
 ·refine ⟨ha.move hk (fun p m h1 h2=>saveD_other (k:=k) hz hD hk (by omega) hb (Or.inl (by omega))),saveD_same hz hD hk (by omega) hb (by omega) hg hc hl⟩
end
end Go.Proofs.YtdjiopacieadpaaGreatDoor
