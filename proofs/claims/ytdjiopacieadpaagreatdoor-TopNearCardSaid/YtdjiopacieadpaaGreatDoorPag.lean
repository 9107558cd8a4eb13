/- TopNear: part Pag: Power DiskN IxN Shelf. -/
import Derived.Test.YtdjiopacieadpaaGreatDoorPaf
import Derived.Deep.OwnRows
import Derived.Shelf.SlSortCmp.WholeK
import Derived.Shelf.SlicesE.Clone
set_option linter.unusedVariables false
set_option linter.unusedSimpArgs false
set_option maxRecDepth 8000
set_option maxHeartbeats 8000000
namespace Go.Proofs.YtdjiopacieadpaaGreatDoor
section
open Go.RowKit
structure Dv (w:World)(p z:Nat)(s:Dst)(F:Nat→Prop)(c:Nat):Prop where
 dk:∃d,w.heap[p]?=some (Obj.cells #[.pointer (some ⟨d,0,none⟩),.bool false,.int .i64 (-1),.int .i64 c] 77 (0,0))∧Dk w d z s (fun b=>F b∧b≠p)
 own:F p
 flt:∀b,F b→b<w.heap.size
theorem Dv.stay {w w':World}{p z:Nat}{s:Dst}{F:Nat→Prop}{c:Nat}(h:Dv w p z s F c){G:Nat→Prop}(hk:Kp G w w')(hG:∀b,F b→ ¬G b):Dv w' p z s F c:=by
 obtain ⟨d,h1,h2⟩:=h.dk;exact ⟨⟨d,hk.blk h1 (hG p h.own),h2.stay hk (fun b hb=>hG b hb.1)⟩,h.own,fun b hb=>Nat.lt_of_lt_of_le (h.flt b hb) hk.size⟩
theorem Dv.new {w w':World}{p z:Nat}{s:Dst}{F:Nat→Prop}{c:Nat}(h:Dv w p z s F c)(hb:Below w.heap.size w w'):Dv w' p z s F c:=h.stay (G:=nob) (Kp.of_new hb) (fun _ _ h=>h)
theorem Dv.hz {w:World}{p z:Nat}{s:Dst}{F:Nat→Prop}{c:Nat}(h:Dv w p z s F c):64≤z∧z≤4096:=by obtain ⟨d,_,h2⟩:=h.dk;exact h2.hz
theorem pnone_any (p:Nat)(d:Nat)(v:Value)(w:World)(h:w.cell? ⟨p,0,none⟩=some (.pointer (some ⟨d,0,none⟩))):Calls Tryz.prog 20 #[.pointer (some ⟨p,0,none⟩)] w fun e w'=>e = .returned (.bool false)∧w=w':=by
 go_enter Tryz.func20,Tryz.ntmps20;go_wp2;go_ret;exact ⟨rfl,rfl⟩
theorem made_any (p z:Nat)(s:Dst)(F:Nat→Prop)(c:Nat)(w:World)(h:Dv w p z s F c)(hc:c<1000000000):
 Calls Tryz.prog 167 #[.pointer (some ⟨p,0,none⟩)] w fun e w'=>e = .returned (.int .i64 0)∧Dv w' p z s F (c+1)∧Kp (· = p) w w':=by
 have H:=hid h;obtain ⟨d,h1,h2⟩:=h.dk;have H1:=hid h1;have H2:=hid h2;obtain ⟨c0,f0,c1,f1,c2,f2,c3,f3⟩:=cells4 h1;have C0:=hid c0;clear h h1 h2;go_enter Tryz.func167,Tryz.ntmps167;go_wp2_with fail;refine (pnone_any p d (.int .i64 0) _ C0.out).mono ?_;rintro e w' ⟨rfl,rfl⟩;go_wp2_with fail;go_ret;have hk:Kp (· = p) w (w.setCell ⟨p,3,none⟩ (.int .i64 ((c:Int)+1))):=(Kp.refl (· = p) w).setCell (p:=⟨p,3,none⟩) rfl _;refine ⟨rfl,⟨⟨d,?_,H2.out.stay hk (fun b hb=>hb.2)⟩,H.out.own,fun b hb=>Nat.lt_of_lt_of_le (H.out.flt b hb) hk.size⟩,hk⟩;have:=heap_setCell_same w p 3 _ 77 (.int .i64 ((c:Int)+1)) H1.out;simpa using this
theorem dvread_any (p z:Nat)(s:Dst)(F:Nat→Prop)(c i:Nat)(w:World)(h:Dv w p z s F c)(hc:c<1000000000)(hi:i<s.dur.length)(hn:s.dur.length≤96):
 Calls Tryz.prog 127 #[.pointer (some ⟨p,0,none⟩),.int .i64 i] w fun e w'=> ∃v' l,e = .returned (.tuple #[v',.int .i64 0])∧(cur s)[i]?=some l∧l.length=z∧Bs l∧w'.ownsRow w.heap.size 5 1 v' z (Lb l)∧Dv w' p z s F (c+1)∧Kp (· = p) w w':=by
 have H:=hid h;have HC:=hid hc;have HI:=hid hi;have HN:=hid hn;clear h hc hi hn;go_enter Tryz.func127,Tryz.ntmps127;go_wp2_with fail;refine (made_any p z s F c _ H.out HC.out).mono ?_;rintro e w1 ⟨rfl,hd,hk⟩;have HD:=hid hd;have HK:=hid hk;obtain ⟨d,h1,h2⟩:=hd.dk;have H2:=hid h2;obtain ⟨c0,f0,_⟩:=cells4 h1;clear hd hk h1 h2;go_wp2_with fail;refine (dread_any d z s _ i _ H2.out HI.out HN.out).mono ?_;rintro e w2 ⟨v',l,rfl,r1,r2,r3,r4,r5⟩;have R1:=hid r1;have R2:=hid r2;have R3:=hid r3;have R4:=hid r4;have R5:=hid r5;clear r1 r2 r3 r4 r5;go_wp2_with fail;go_ret2;exact ⟨_,l,rfl,R1.out,R2.out,R3.out,own_mono R4.out HK.out.size,HD.out.new R5.out,HK.out.trans (Kp.of_new R5.out)⟩
theorem dvwrite_any (p z:Nat)(s:Dst)(F:Nat→Prop)(c i:Nat)(v:Value)(l:List Nat)(w:World)(h:Dv w p z s F c)(hc:c<1000000000)(hi:i<s.dur.length)(hn:s.dur.length≤96)(hr:s.row.length<100000)(hv:Sl w v (Lb l))(hvF:∀b,v.ownBlock=some b→ ¬F b)(hl:l.length=z)(hb:Bs l):
 Calls Tryz.prog 129 #[.pointer (some ⟨p,0,none⟩),.int .i64 i,v] w fun e w'=>e = .returned (.int .i64 0)∧ ∃F',Step F F' w w'∧Dv w' p z {s with row:=s.row++[(i,l)]} F' (c+1):=by
 have H:=hid h;have HC:=hid hc;have HI:=hid hi;have HN:=hid hn;have HR:=hid hr;have HV:=hid hv;have HVF:=hid hvF;have HL:=hid hl;have HB:=hid hb;obtain ⟨av,cv,e1,_,_⟩:=Sl_partsB hv;subst e1;clear h hc hi hn hr hv hvF hl hb;go_enter Tryz.func129,Tryz.ntmps129;go_wp2_with fail;refine (made_any p z s F c _ H.out HC.out).mono ?_;rintro e w1 ⟨rfl,hd,hk⟩;have HD:=hid hd;have HK:=hid hk;obtain ⟨d,h1,h2⟩:=hd.dk;have H2:=hid h2;have H1:=hid h1;obtain ⟨c0,f0,_⟩:=cells4 h1;have HV1:=hid (Sl_kp HV.out hk (fun b hb e=>HVF.out b hb (by rw [e];exact H.out.own)));clear hd hk h1 h2;go_wp2_with fail;refine (dwrite_any d z s _ i _ l _ H2.out HI.out HN.out HR.out HV1.out HL.out HB.out).mono ?_;rintro e w2 ⟨rfl,F',hs,hdk⟩;have HS:=hid hs;have HDK:=hid hdk;clear hs hdk;go_wp2_with fail;go_ret;have hpF:¬F' p:=fun e=>by
  rcases HS.out.sub p e with e | e
  ·exact e.2 rfl
  ·have:=heap_lt H1.out;omega
 have hk2:Kp F w1 w2:=HS.out.kp.mono (fun i hi=>hi.1);refine ⟨rfl,fun b=>F' b∨b=p,⟨(HK.out.mono (fun i hi=>by rw [hi];exact H.out.own)).trans hk2,fun b hb=>?_,fun b hb=>?_⟩,⟨d,?_,?_⟩,Or.inr rfl,fun b hb=>?_⟩
 ·rcases hb with hb | hb
  ·rcases HS.out.sub b hb with e | e
   ·exact Or.inl e.1
   ·exact Or.inr (Nat.le_trans HK.out.size e)
  ·exact Or.inl (by rw [hb];exact H.out.own)
 ·rcases hb with hb | hb
  ·exact HS.out.lt b hb
  ·rw [hb];exact Nat.lt_of_lt_of_le (heap_lt H1.out) HS.out.kp.size
 ·exact HS.out.kp.blk H1.out (fun e=>e.2 rfl)
 ·exact HDK.out.mono (fun b hb=>⟨Or.inl hb,fun e=>hpF (by rw [←e];exact hb)⟩) (fun b hb=>by
   rcases hb.1 with e | e
   ·exact HS.out.lt b e
   ·exact absurd e hb.2)
 ·rcases hb with hb | hb
  ·exact HS.out.lt b hb
  ·rw [hb];exact Nat.lt_of_lt_of_le (heap_lt H1.out) HS.out.kp.size
theorem dvsync_any (p z:Nat)(s:Dst)(F:Nat→Prop)(c:Nat)(w:World)(h:Dv w p z s F c)(hc:c<1000000000)(hr:s.row.length<100000):
 Calls Tryz.prog 130 #[.pointer (some ⟨p,0,none⟩)] w fun e w'=>e = .returned (.int .i64 0)∧Kp F w w'∧Dv w' p z {dur:=cur s,row:=[]} F (c+1):=by
 have H:=hid h;have HC:=hid hc;have HR:=hid hr;clear h hc hr;go_enter Tryz.func130,Tryz.ntmps130;go_wp2_with fail;refine (made_any p z s F c _ H.out HC.out).mono ?_;rintro e w1 ⟨rfl,hd,hk⟩;have HD:=hid hd;have HK:=hid hk;obtain ⟨d,h1,h2⟩:=hd.dk;have H2:=hid h2;have H1:=hid h1;obtain ⟨c0,f0,_⟩:=cells4 h1;clear hd hk h1 h2;go_wp2_with fail;refine (dsync_any d z s _ _ H2.out HR.out).mono ?_;rintro e w2 ⟨rfl,hs,hdk⟩;have HS:=hid hs;have HDK:=hid hdk;clear hs hdk;go_wp2_with fail;go_ret;exact ⟨rfl,(HK.out.mono (fun i hi=>by rw [hi];exact H.out.own)).trans (HS.out.mono (fun i hi=>hi.1)),⟨d,HS.out.blk H1.out (fun e=>e.2 rfl),HDK.out⟩,H.out.own,fun b hb=>Nat.lt_of_lt_of_le (HD.out.flt b hb) HS.out.size⟩
theorem dvcount_any (p z:Nat)(s:Dst)(F:Nat→Prop)(c:Nat)(w:World)(h:Dv w p z s F c):
 Calls Tryz.prog 10 #[.pointer (some ⟨p,0,none⟩)] w fun e w'=>e = .returned (.int .i64 c)∧w=w':=by
 obtain ⟨d,h1,h2⟩:=h.dk;obtain ⟨c0,f0,c1,f1,c2,f2,c3,f3⟩:=cells4 h1;have C0:=hid c0;clear h h1 h2;go_enter Tryz.func10,Tryz.ntmps10;go_wp2_with fail;refine (pnone_any p d (.int .i64 0) _ C0.out).mono ?_;rintro e w' ⟨rfl,rfl⟩;go_wp2_with fail;go_ret;exact ⟨rfl,rfl⟩
theorem dvsectors_any (p z:Nat)(s:Dst)(F:Nat→Prop)(c:Nat)(w:World)(h:Dv w p z s F c):
 Calls Tryz.prog 100 #[.pointer (some ⟨p,0,none⟩)] w fun e w'=>e = .returned (.int .i64 s.dur.length)∧w=w':=by
 obtain ⟨d,h1,h2⟩:=h.dk;obtain ⟨c0,f0,c1,f1,c2,f2,c3,f3⟩:=cells4 h1;have C0:=hid c0;have H2:=hid h2;clear h h1 h2;go_enter Tryz.func100,Tryz.ntmps100;go_wp2_with fail;refine (pnone_any p d (.int .i64 0) _ C0.out).mono ?_;rintro e w' ⟨rfl,rfl⟩;go_wp2_with fail;refine (dsectors_any d z s _ _ H2.out).mono ?_;rintro e w' ⟨rfl,rfl⟩;go_wp2_with fail;go_ret;exact ⟨rfl,rfl⟩
theorem dvsize_any (p z:Nat)(s:Dst)(F:Nat→Prop)(c:Nat)(w:World)(h:Dv w p z s F c):
 Calls Tryz.prog 101 #[.pointer (some ⟨p,0,none⟩)] w fun e w'=>e = .returned (.int .i64 z)∧w=w':=by
 obtain ⟨d,h1,h2⟩:=h.dk;obtain ⟨c0,f0,c1,f1,c2,f2,c3,f3⟩:=cells4 h1;have C0:=hid c0;have H2:=hid h2;clear h h1 h2;go_enter Tryz.func101,Tryz.ntmps101;go_wp2_with fail;refine (pnone_any p d (.int .i64 0) _ C0.out).mono ?_;rintro e w' ⟨rfl,rfl⟩;go_wp2_with fail;refine (dsize_any d z s _ _ H2.out).mono ?_;rintro e w' ⟨rfl,rfl⟩;go_wp2_with fail;go_ret;exact ⟨rfl,rfl⟩
theorem dvrestart_any (p z:Nat)(s:Dst)(F:Nat→Prop)(c:Nat)(w:World)(h:Dv w p z s F c)(hr:s.row=[]):
 Calls Tryz.prog 9 #[.pointer (some ⟨p,0,none⟩),.slice none 0 0] w fun e w'=>e = .returned (.int .i64 0)∧Kp F w w'∧Dv w' p z s F 0:=by
 have H:=hid h;have HR:=hid hr;obtain ⟨d,h1,h2⟩:=h.dk;have H2:=hid h2;have H1:=hid h1;obtain ⟨c0,f0,c1,f1,c2,f2,c3,f3⟩:=cells4 h1;have C0:=hid c0;clear h h1 h2 hr;go_enter Tryz.func9,Tryz.ntmps9;go_wp2_with fail;refine (pnone_any p d (.int .i64 0) _ C0.out).mono ?_;rintro e w' ⟨rfl,rfl⟩;go_wp2_with fail;refine (dcrash_any d z s _ _ H2.out HR.out).mono ?_;rintro e w2 ⟨rfl,hs,hdk⟩;have HS:=hid hs;have HDK:=hid hdk;have hp2:=hs.blk H1.out (fun e=>e.2 rfl);have HP2:=hid hp2;obtain ⟨c0,f0,c1,f1,c2,f2,c3,f3⟩:=cells4 hp2;clear hs hdk hp2;go_wp2_with fail;go_ret;have hk:Kp (· = p) w2 (((w2.setCell ⟨p,1,none⟩ (.bool false)).setCell ⟨p,2,none⟩ (.int .i64 (-1))).setCell ⟨p,3,none⟩ (.int .i64 0)):=
  (((Kp.refl (· = p) w2).setCell (p:=⟨p,1,none⟩) rfl _).setCell (p:=⟨p,2,none⟩) rfl _).setCell (p:=⟨p,3,none⟩) rfl _
 refine ⟨rfl,(HS.out.mono (fun i hi=>hi.1)).trans (hk.mono (fun i hi=>by rw [hi];exact H.out.own)),⟨d,?_,HDK.out.stay hk (fun b hb=>hb.2)⟩,H.out.own,fun b hb=>Nat.lt_of_lt_of_le (Nat.lt_of_lt_of_le (H.out.flt b hb) HS.out.size) hk.size⟩;have e1:=heap_setCell_same _ p 1 _ 77 (.bool false) HP2.out;have e2:=heap_setCell_same _ p 2 _ 77 (.int .i64 (-1)) e1;have e3:=heap_setCell_same _ p 3 _ 77 (.int .i64 0) e2;exact e3
theorem dvnew_any (d z:Nat)(s:Dst)(F:Nat→Prop)(w:World)(h:Dk w d z s F)(hn:0<s.dur.length):
 Calls Tryz.prog 43 #[.pointer (some ⟨d,0,none⟩)] w fun e w'=>e = .returned (.tuple #[.pointer (some ⟨w.heap.size,0,none⟩),.int .i64 0])∧Below w.heap.size w w'∧Dv w' w.heap.size z s (fun b=>F b∨b=w.heap.size) 0:=by
 have H:=hid h;have hne:((s.dur.length:Int) == 0)=false:=by simp;exact List.ne_nil_of_length_pos hn
 have HNE:=hid hne;clear h hne;go_enter Tryz.func43,Tryz.ntmps43;go_wp2_with fail;refine (dsectors_any d z s _ _ H.out).mono ?_;rintro e w' ⟨rfl,rfl⟩;have hne:=HNE.out;go_wp2_with fail;go_ret2;have N:=new1 w (Obj.cells #[.pointer (some ⟨d,0,none⟩),.bool false,.int .i64 (-1),.int .i64 0] 77);refine ⟨rfl,N.2.2,⟨d,N.1,(H.out.new N.2.2).mono (fun b hb=>⟨Or.inl hb,fun e=>by have:=H.out.flt b hb;omega⟩) (fun b hb=>?_)⟩,Or.inr rfl,fun b hb=>?_⟩
 ·rcases hb.1 with e | e
  ·have:=H.out.flt b e;rw [N.2.1];omega
  ·exact absurd e hb.2
 ·rcases hb with e | e
  ·have:=H.out.flt b e;rw [N.2.1];omega
  ·rw [N.2.1];omega
end
section
open Go.RowKit Go.ChangeMaps Go.MapKept
theorem info34:(Tryz.prog.info? 34).map (fun i=>(i.zero,i.size,i.bytes))=some (some (.slice none 0 0),1,24):=by kernel_rfl
theorem madeB (z:Nat):madeCells #[.int .u8 0] z=(Lb (List.replicate z 0)).toArray :=by
 apply Array.ext
 ·simp [madeCells,Lb]
 ·intro i h1 h2;simp [madeCells,Lb];simp [Nat.mod_one]
theorem run_makeB (z:Nat)(hz:z≤1000000)(w:World):(Instr.makeSlice 34 (.int .i64 z) (.int .i64 z)).run Tryz.prog w = .ok (.slice (some ⟨w.heap.size,0,none⟩) z z) (w.alloc (.cells (Lb (List.replicate z 0)).toArray 5)):=by
 rw [←madeB];exact run_make_row' 34 5 (.int .u8 0) 1 Tryz.underlying34 info5 rfl .i64 .i64 z (by omega) (by omega) w
theorem run_makeM (w:World):(Instr.makeMap 138 none).run Tryz.prog w = .ok (.map (some w.heap.size)) (w.alloc (.map #[] 0)):=by
 simp [Instr.makeMap]
theorem DkP.more {w w1:World}{d z:Nat}{D:List (List Nat)}{F:Nat→Prop}{secs:List Nat}{dv:Value}{m:Nat}(h:DkP w d z {dur:=D,row:=[]} F secs dv (.slice none 0 0) m []){T:Nat}{l:List Nat}(hT:w.heap[T]?=some (.cells (Lb l).toArray 5 (0,0)))(hl:l.length=z)(hbs:Bs l)(hTn:T ∉ secs){g cap:Nat}(hown:w1.ownsRow 0 34 1 (.slice (some ⟨g,0,none⟩) (secs.length+1) cap) (secs.length+1) (secs.map (secV z)++[secV z T]))(hgrow:w.grownBy w1 dv.ownBlock)(hgd:g≠d){G:Nat→Prop}(hG:∀b,F b→G b)(hGT:G T)(hGg:G g)(hGl:∀b,G b→b<w1.heap.size):
 DkP (w1.setCell ⟨d,1,none⟩ (.slice (some ⟨g,0,none⟩) (secs.length+1) cap)) d z {dur:=D++[l],row:=[]} G (secs++[T]) (.slice (some ⟨g,0,none⟩) (secs.length+1) cap) (.slice none 0 0) m []:=by
 obtain ⟨ms,mc,hm⟩:=h.hmp.isMap;obtain ⟨f1,f2,f3,f4,f5⟩:=h.hF;have hdm:d≠m:=map_ne h.hd hm;have hkeep:∀k,k<w.heap.size→dv.ownBlock≠some k→w1.heap[k]?=w.heap[k]? :=fun k hk hn=>hgrow.block k hk (fun e=>hn e.symm)
 have hdd:dv.ownBlock≠some d:=fun e=>by obtain ⟨C,hC⟩:=own_ty h.hdv e;exact ty_ne hC h.hd (by decide) rfl
 have hdvm:dv.ownBlock≠some m:=fun e=>by obtain ⟨C,hC⟩:=own_ty h.hdv e;exact map_ne hC hm rfl
 have h5:∀b C,w.heap[b]?=some (Obj.cells C 5 (0,0))→(w1.setCell ⟨d,1,none⟩ (.slice (some ⟨g,0,none⟩) (secs.length+1) cap)).heap[b]?=some (Obj.cells C 5 (0,0)):=fun b C hb=>by
  rw [heap_setCell_ne _ _ _ (ty_ne hb h.hd (by decide)),hkeep b (heap_lt hb) (fun e=>by obtain ⟨D,hD⟩:=own_ty h.hdv e;exact ty_ne hD hb (by decide) rfl)];exact hb
 refine ⟨heap_setCell_same _ d 1 _ 140 _ ((hkeep d (heap_lt h.hd) hdd).trans h.hd),?_,by simp [h.hlen],?_,?_,rfl,⟨by simp,Or.inl ⟨rfl,rfl⟩⟩,(by intro e he;cases he),?_,⟨hG _ f1,hG _ f2,?_,?_,by intro b hb;cases hb⟩,h.hz,fun b hb=>by rw [cell_size];exact hGl b hb⟩
 ·rw [List.length_append,List.map_append];exact own_other hown (fun e=>by injection e with e;exact hgd e) _
 ·intro i b lb hi hlb;have hlb':(D++[l])[i]?=some lb:=hlb;have hlen:secs.length=D.length:=h.hlen;by_cases hc:i<secs.length
  ·rw [List.getElem?_append_left hc] at hi;rw [List.getElem?_append_left (by omega)] at hlb';obtain ⟨a1,a2⟩:=h.hsec i b lb hi hlb';exact ⟨h5 b _ a1,a2⟩
  ·have hi2:i=secs.length:=by
    have:=(List.getElem?_eq_some_iff.1 hi).1;simp at this;omega
   subst hi2;rw [List.getElem?_append_right (Nat.le_refl _)] at hi;rw [hlen,List.getElem?_append_right (Nat.le_refl _)] at hlb';simp at hi hlb';subst hi hlb';exact ⟨h5 T _ hT,hl,hbs⟩
 ·exact List.nodup_append.2 ⟨h.hnd,by simp,fun a ha b hb=>by simp at hb;subst hb;intro e;subst e;exact hTn ha⟩
 ·exact h.hmp.stay (by rw [heap_setCell_ne _ _ _ (Ne.symm hdm),hkeep m (heap_lt hm) hdvm])
 ·intro b hb;rcases List.mem_append.1 hb with e | e
  ·exact hG _ (f3 b e)
  ·simp at e;subst e;exact hGT
 ·intro b hb;injection hb with hb;subst hb;exact hGg
theorem disknew_any (n z:Nat)(w:World)(h0:1≤n)(h1:n≤96)(hz:sizedB z=true):
 Calls Tryz.prog 42 #[.int .i64 n,.int .i64 z] w fun e w'=> ∃d F,e = .returned (.tuple #[.pointer (some ⟨d,0,none⟩),.int .i64 0])∧Dk w' d z {dur:=List.replicate n (List.replicate z 0),row:=[]} F∧(∀b,F b→w.heap.size≤b)∧Below w.heap.size w w':=by
 have HSZ:=hid hz;have hz2:64≤z∧z≤4096:=by have:=sizedB_le hz;omega
 have H0:=hid h0;have H1:=hid h1;have HMK:=hid (run_makeB z (by omega));have N:=new2 w (.map #[] 0) (Obj.cells #[.int .i64 z,.slice none 0 0,.slice none 0 0,.map (some w.heap.size)] 140);have HN:=hid N;obtain ⟨i0,hi0,hz0,hz1,hz3⟩:=info_parts info34;have HI0:=hid hi0;have HZ2:=hid hz3;have hmm:=run_makeM;clear hz N h0 hi0 hz3;go_enter Tryz.func42,Tryz.ntmps42;go_wp2_with fail;refine (may_ok n z _ H0.out H1.out HSZ.out).mono ?_;rintro e w' ⟨rfl,rfl⟩;go_wp2_with fail;go_loopw [16] (fun i wi=> ∃(k:Nat) (K:Int) (secs:List Nat) (dv:Value),k≤n∧K=(k:Int)∧i = .int .i64 K∧DkP wi (w.heap.size+1) z {dur:=List.replicate k (List.replicate z 0),row:=[]} (fun b=>w.heap.size≤b∧b<wi.heap.size) secs dv (.slice none 0 0) w.heap.size []∧Below w.heap.size w wi) (fun i _=>n-(intOf i).toNat)
 case atStart=>
  have N:=HN.out;refine ⟨0,0,[],.slice none 0 0,by omega,rfl,rfl,⟨N.2.1,⟨by simp,Or.inl ⟨rfl,rfl⟩⟩,rfl,?_,List.nodup_nil,rfl,⟨by simp,Or.inl ⟨rfl,rfl⟩⟩,(by intro e he;cases he),Mf.of_block N.1,⟨⟨by omega,?_⟩,⟨by omega,?_⟩,(by intro b hb;cases hb),(by intro b hb;cases hb),(by intro b hb;cases hb)⟩,hz2,fun b hb=>hb.2⟩,N.2.2.2⟩
  ·intro i b l hi;cases hi
  ·rw [N.2.2.1];omega
  ·rw [N.2.2.1];omega
 case round=>
  obtain ⟨k,K,secs,dv,hk,hK,rfl,hD,hB⟩:=hrel;have HD:=hid hD;have HB:=hid hB;have hsl:secs.length=k:=by have:=hD.hlen;simpa using this
  subst hsl;obtain ⟨oa,ca,edv,_,_⟩:=own_form hD.hdv;subst edv;have HK:=hid hK;clear hD hB;by_cases hlt:secs.length<n
  ·have hKlt:K<(n:Int):=by omega
   have hkb:secs.length<100000:=by omega
   go_wp2_with fail;have hN:=new2 wr (Obj.cells (Lb (List.replicate z 0)).toArray 5) (Obj.cells #[.slice (some ⟨wr.heap.size,0,none⟩) z z] 34);obtain ⟨n1,n2,n3,n4⟩:=hN;have hX:((wr.alloc (Obj.cells (Lb (List.replicate z 0)).toArray 5)).alloc (Obj.cells #[.slice (some ⟨wr.heap.size,0,none⟩) z z] 34)).drew.heap[wr.heap.size+1]?=some (Obj.cells #[.slice (some ⟨wr.heap.size,0,none⟩) z z] 34):=n2;have hXB:Below wr.heap.size wr ((wr.alloc (Obj.cells (Lb (List.replicate z 0)).toArray 5)).alloc (Obj.cells #[.slice (some ⟨wr.heap.size,0,none⟩) z z] 34)).drew :=n4.trans ⟨rfl,rfl,rfl,Nat.le_refl _,fun _ _=>rfl⟩;have hXS:((wr.alloc (Obj.cells (Lb (List.replicate z 0)).toArray 5)).alloc (Obj.cells #[.slice (some ⟨wr.heap.size,0,none⟩) z z] 34)).drew.heap.size = wr.heap.size+2:=n3;have HP2:=hid (HD.out.stay (G:=nob) (Kp.of_new hXB) (fun _ _ h=>h));have HT:Hid (((wr.alloc (Obj.cells (Lb (List.replicate z 0)).toArray 5)).alloc (Obj.cells #[.slice (some ⟨wr.heap.size,0,none⟩) z z] 34)).drew.heap[wr.heap.size]?=some (Obj.cells (Lb (List.replicate z 0)).toArray 5)):=hid n1;have HX:=hid hX;have HXB:=hid hXB;have HXS:=hid hXS;have hmk:=HMK.out;have cD:=blk HD.out.hd;have k1:wr.cell? ⟨w.heap.size+1,1,none⟩=some (.slice oa secs.length ca):=cD.1 1;have k0:wr.cell? ⟨w.heap.size+1,0,none⟩=some (.int .i64 z):=cD.1 0;have cD2:=blk HP2.out.hd;have k1':((wr.alloc (Obj.cells (Lb (List.replicate z 0)).toArray 5)).alloc (Obj.cells #[.slice (some ⟨wr.heap.size,0,none⟩) z z] 34)).cell? ⟨w.heap.size+1,1,none⟩=some (.slice oa secs.length ca):=cD2.1 1;have k1'':(wr.alloc (Obj.cells (Lb (List.replicate z 0)).toArray 5)).cell? ⟨w.heap.size+1,1,none⟩=some (.slice oa secs.length ca):=by rw [World.cell?_alloc_some _ _ _ (by rw [k1];rfl)];exact k1
   have HF1:Hid (w.heap.size+1<wr.heap.size):=hid (heap_lt HD.out.hd);have HDV:Hid ((Value.slice oa secs.length ca).ownBlock ≠some (w.heap.size+1)):=hid (fun e=>by obtain ⟨C,hC⟩:=own_ty HD.out.hdv e;exact ty_ne hC HD.out.hd (by decide) rfl);clear hX hXB hXS n1 n2 n3 n4 cD cD2;refine wp_region_held_drew (S:=fun w'=>w'.cell? ⟨w.heap.size+1,0,none⟩=some (.int .i64 z)∧True) (by kernel_rfl) (by (try dsimp only);first | assumption | go_keep) (fun hHeld=>?_);refine tkm 5 [(0,18),(1,19),(2,20),(3,21),(5,23)] (by kernel_rfl) (fun _ _ _ _ _ h=>h) (by assumption) ?_;iterate 5
    refine ysC (v:=?_) rfl rfl (fun w9 hS9=>?_) ?_;rotate_left
    ·try dsimp only at hS9
     go_split_ands;go_simp;try with_reducible rfl
    simp only [Act.put,List.setIfInBounds_toArray,List.set_cons_zero,List.set_cons_succ]
   refine ysN ?_;refine rd2 4 6 (by kernel_rfl) rfl rfl (fun K9 hK9=>?_) (fun K9 hK9=>?_);go_simp;refine hK9.out _ _ (by (try dsimp only);first | assumption | go_keep) (fun hHeld=>?_);clear hK9 K9;refine rd1 6 (by kernel_rfl) rfl (fun K9 hK9=>?_);go_simp;refine hK9.out _ _ (by (try dsimp only);first | assumption | go_keep) (fun hHeld=>?_);clear hK9 K9;refine rd1 7 (by kernel_rfl) rfl (fun K9 hK9=>?_);go_simp;refine hK9.out _ _ (by (try dsimp only);first | assumption | go_keep) (fun hHeld=>?_);clear hK9 K9;rotate_left;go_simp;refine hK9.out _ _ (by (try dsimp only);first | assumption | go_keep) (fun hHeld=>?_);clear hK9 K9;refine rd2 4 7 (by kernel_rfl) rfl rfl (fun K9 hK9=>?_) (fun K9 hK9=>?_);go_simp;refine hK9.out _ _ (by (try dsimp only);first | assumption | go_keep) (fun hHeld=>?_);clear hK9 K9;refine rd1 7 (by kernel_rfl) rfl (fun K9 hK9=>?_);go_simp;refine hK9.out _ _ (by (try dsimp only);first | assumption | go_keep) (fun hHeld=>?_);clear hK9 K9;rotate_left;go_simp;refine hK9.out _ _ (by (try dsimp only);first | assumption | go_keep) (fun hHeld=>?_);clear hK9 K9;refine rd1 4 (by kernel_rfl) rfl (fun K9 hK9=>?_);go_simp;refine hK9.out _ _ (by (try dsimp only);first | assumption | go_keep) (fun hHeld=>?_);clear hK9 K9;all_goals
    refine rd1 8 (by kernel_rfl) rfl (fun K9 hK9=>?_);(first | (refine step_append_lies _ (by rfl) _ _ 24 (by rfl) 0 34 i0 (.slice none 0 0) 1 24 Tryz.underlying24 HI0.out hz0 hz1 HZ2.out (by rfl) (by decide) (.slice oa secs.length ca) secs.length (secs.map (secV z)) (by rfl) HP2.out.hdv ⟨wr.heap.size+1,0,none⟩ 1 1 [.slice (some ⟨wr.heap.size,0,none⟩) z z] (by rfl) (by rfl) (World.news_of_block HX.out) (by simp [Value.oneCell']) (by decide) (by unfold maxLen;omega) (by omega) (Nat.zero_le _) (wr.heap.size+2) HXS.out ?_;intro g cap w4 hown hgrow hat hlt4;have hdn:=HDV.out;have hb4:=(hgrow.block (w.heap.size+1) (by rw [HXS.out];have:=HF1.out;omega) (fun e=>hdn e.symm)).trans HP2.out.hd;have k4:w4.cell? ⟨w.heap.size+1,0,none⟩=some (.int .i64 z)∧True:=⟨(blk hb4).1 0,trivial⟩;have k7:(w4.setCell ⟨w.heap.size+1,1,none⟩ (.slice (some ⟨g,0,none⟩) (secs.length+1) cap)).cell? ⟨w.heap.size+1,0,none⟩=some (.int .i64 z)∧True:=⟨(World.cell?_setCell_other _ _ _ _ (by simp)).trans k4.1,trivial⟩;have k5:w4.cell? ⟨w.heap.size+1,1,none⟩=some (.slice oa secs.length ca):=(blk hb4).1 1;have k6:w4.frozen? ⟨w.heap.size+1,1,none⟩=false:=(blk hb4).2.1 1;have hOw:=hid hown;have hGr:=hid hgrow;have hAt:=hid hat;have hLt:=hid hlt4;clear hown hgrow hat hlt4 hdn hb4))
    refine hK9.out _ _ (by (try dsimp only);first | assumption | go_keep) (fun hHeld=>?_);clear hK9 K9;refine tkm 2 [(9,27),(10,28)] (by kernel_rfl) (fun _ _ _ _ _ h=>h) (by assumption) ?_;iterate 2
     refine ysC (v:=?_) rfl rfl (fun w9 hS9=>?_) ?_;rotate_left
     ·try dsimp only at hS9
      go_split_ands;go_simp;try with_reducible rfl
     simp only [Act.put,List.setIfInBounds_toArray,List.set_cons_zero,List.set_cons_succ]
    refine ysN ?_;refine rd1 11 (by kernel_rfl) rfl (fun K9 hK9=>?_);go_simp;refine hK9.out _ _ (by (try dsimp only);first | assumption | go_keep) (fun hHeld=>?_);clear hK9 K9;refine wpAnyH_done (by kernel_rfl) ?_ _
   all_goals
    go_wp2;go_roundw;case rel=>
     have hgd:g≠w.heap.size+1:=by
      rcases hAt.out with e | e
      ·intro e2;rw [e2] at e;exact HDV.out e
      ·have:=HF1.out;omega
     have hTn:wr.heap.size ∉ secs:=fun e=>by have:=HD.out.hF.2.2.1 _ e;omega
     have hgs:=hGr.out.size;rw [HXS.out] at hgs;have hG:∀b,(w.heap.size≤b∧b<w4.heap.size)→b<w4.heap.size:=fun b hb=>hb.2
     have hgg:w.heap.size≤g:=by
      rcases hAt.out with e | e
      ·exact (HD.out.hF.2.2.2.1 g e).1
      ·have:=HF1.out;omega
     have hM:=HP2.out.more HT.out (List.length_replicate ..) (by intro x hx;rw [List.eq_of_mem_replicate hx];omega) hTn hOw.out hGr.out hgd (G:=fun b=>w.heap.size≤b∧b<w4.heap.size) (fun b hb=>⟨hb.1,by omega⟩) ⟨by have:=HF1.out;omega,by omega⟩ ⟨hgg,hLt.out⟩ hG;rw [←List.replicate_succ'] at hM;refine ⟨secs.length+1,(secs.length:Int)+1,secs++[wr.heap.size],.slice (some ⟨g,0,none⟩) (secs.length+1) cap,by omega,by omega,rfl,?_,?_⟩
     ·have e9:(w4.setCell ⟨w.heap.size+1,1,none⟩ (.slice (some ⟨g,0,none⟩) (secs.length+1) cap)).heap.size = w4.heap.size:=cell_size _ _ _;rw [e9];exact hM
     ·exact ((HB.out.trans (HXB.out.mono HB.out.size)).grown (hGr.out) (by rw [HXS.out];have:=HF1.out;omega) (fun k e=>(HD.out.hF.2.2.2.1 k e).1)).setCell (p:=⟨w.heap.size+1,1,none⟩) (by show w.heap.size≤w.heap.size+1;omega) _
    case measure=>simp [intOf];omega
  ·have hKlt:¬K<(n:Int):=by omega
   have hkn:secs.length=n:=by omega
   go_wp2_with fail;go_ret2;have hE:=HD.out;rw [hkn] at hE;exact ⟨_,rfl,fun b=>w.heap.size≤b∧b<wr.heap.size,⟨_,_,_,_,_,hE⟩,fun b hb=>hb.1,HB.out⟩
end
section
open Go.RowKit IdxPlain
theorem info317:(Tryz.prog.info? 317).map (fun i=>(i.zero,i.size,i.bytes))=some (some (.agg #[.int .u8 0,.int .u32 0,.int .i64 0]),3,16):=by kernel_rfl
theorem made3 (n:Nat):madeCells #[.int .u8 0,.int .u32 0,.int .i64 0] (n*3)=slC (List.replicate n (0,0,0)):=by
 apply Array.ext
 ·rw [size_madeCells];unfold slC;rw [List.size_toArray,slC_len,List.length_replicate]
 ·intro i h1 h2;rw [size_madeCells] at h1;have hq:i / 3<n:=by omega
  have hr:i % 3<3:=Nat.mod_lt _ (by omega);have hg:=slC_get (List.replicate n (0,0,0)) (i / 3) (i % 3) hr;rw [show i / 3*3+i % 3=i by omega,List.getElem?_replicate,if_pos hq] at hg;have h3:(slC (List.replicate n (0,0,0)))[i]?=(stC (0,0,0))[i % 3]? :=by unfold slC;rw [List.getElem?_toArray];exact hg
  have h4:(slC (List.replicate n (0,0,0)))[i]?=some (slC (List.replicate n (0,0,0)))[i]:=Array.getElem?_eq_getElem h2;rw [h4] at h3;simp only [madeCells,Array.getElem_map,Array.getElem_range];match hm:i % 3,hr with
  | 0,_=>rw [hm] at h3;injection h3 with h3;rw [h3];simp [hm]
  | 1,_=>rw [hm] at h3;injection h3 with h3;rw [h3];simp [hm]
  | 2,_=>rw [hm] at h3;injection h3 with h3;rw [h3];simp [hm]
theorem run_make3 (n:Nat)(hn:n≤1000)(w:World):(Instr.makeSlice 254 (.int .i64 n) (.int .i64 n)).run Tryz.prog w = .ok (.slice (some ⟨w.heap.size,0,none⟩) n n) (w.alloc (.cells (slC (List.replicate n (0,0,0))) 317)):=by
 obtain ⟨i0,hi,hz0,hz1,hz2⟩:=info_parts info317;have h:=run_makeSlice (P:=Tryz.prog) w 254 317 i0 _ Tryz.underlying254 hi hz0 .i64 .i64 (n:Int) (n:Int) (by omega) (by omega) (by rw [hz1];simp;omega) (by rw [hz2];omega) (by omega);rw [h,hz1];simp only [Int.toNat_natCast];rw [show (Value.agg #[.int .u8 0,.int .u32 0,.int .i64 0]).cells = #[.int .u8 0,.int .u32 0,.int .i64 0] from rfl,made3]
def INew (m:Nat)(w:World)(e:Ending)(w':World):Prop:= ∃p F,e = .returned (.tuple #[.pointer (some ⟨p,0,none⟩),.int .i64 0])∧Id w' p F (fun _=>none) m 0∧(∀b,F b→w.heap.size≤b)∧Below w.heap.size w w'
theorem inew_any (m:Nat)(w:World)(h1:1≤m)(h2:m≤24):Calls Tryz.prog 107 #[.int .i64 m] w (INew m w):=by
 have HMK:=hid run_make3;have hmI:¬(m:Int)<1:=by omega
 have hmI2:¬(m:Int)>4096:=by omega
 go_enter Tryz.func107,Tryz.ntmps107;go_wp2_with fail;go_loop [4] (fun s4=> ∃n:Nat,s4 = .int .i64 n∧1≤n∧n<4*m) (fun s4=>4*m-(intOf s4).toNat)
 case atStart=>exact ⟨1,rfl,by omega,by omega⟩
 case round=>
  obtain ⟨n,rfl,hn1,hn4⟩:=hrel;by_cases hlt:n<2*m
  ·have hltI:(n:Int)<2*(m:Int):=by omega
   go_wp2_with fail;go_round
   case rel=>exact ⟨2*n,by congr 1;omega,by omega,by omega⟩
   case measure=>simp [intOf];omega
  ·have hltI:¬(n:Int)<2*(m:Int):=by omega
   have hmk:=HMK.out n (by omega);go_wp2_with fail;go_ret2;have N:=new2 w (.cells (slC (List.replicate n (0,0,0))) 317) (.cells #[.slice (some ⟨w.heap.size,0,none⟩) n n,.int .i64 m,.int .i64 0,.int .i64 0,.int .i64 0] 256);have hc:=cnt_replicate n;refine ⟨w.heap.size+1,fun b=>b=w.heap.size∨b=w.heap.size+1,rfl,⟨w.heap.size,List.replicate n (0,0,0),n,0,0,⟨⟨N.2.1,N.1,List.length_replicate,⟨hn1,?_⟩,fun s hs=>?_,⟨h2,by omega,by omega⟩⟩,none_ok _ _,hc.1.symm,hc.2.symm,by omega,by omega,by omega,Or.inr rfl,Or.inl rfl,fun b hb=>?_⟩⟩,fun b hb=>by rcases hb with hb | hb<;>omega,N.2.2.2⟩
   ·omega
   ·rw [List.eq_of_mem_replicate hs];exact ⟨by decide,by decide,by decide⟩
   ·have:=N.2.2.1;rcases hb with hb | hb<;>omega
end
end Go.Proofs.YtdjiopacieadpaaGreatDoor
namespace Go.Proofs
section
open Go.Shelf
def Tryz.sortL_ren:Go.Shelf.Ren:=⟨fun | 6=>217 | 15=>227 | 14=>226 | 28=>237 | 29=>238 | 20=>229 | 21=>230 | 22=>231 | 23=>232 | 24=>233 | 25=>234 | 26=>235 | 27=>236 | 46=>239 | 47=>240 | 48=>241 | 49=>242 | 50=>243 | 57=>244 | n=>n,fun | 22=>254 | 24=>317 | 25=>329 | 3=>3 | 39=>280 | 0=>0 | 53=>46 | 55=>39 | 4=>4 | 46=>339 | 45=>338 | 50=>310 | 5=>5 | 9=>9 | 66=>346 | 70=>349 | 76=>351 | 77=>352 | n=>n,fun | n=>n⟩
theorem Tryz.sortL:Go.Proofs.SlLaysF0.n6 Tryz.prog Tryz.sortL_ren:={
 mixed:=by kernel_rfl
 f6:=⟨Tryz.f217.name,by decide,Tryz.func217.trans (congrArg some (by kernel_rfl))⟩
 f14:=⟨Tryz.f226.name,by decide,Tryz.func226.trans (congrArg some (by kernel_rfl))⟩
 f15:=Tryz.func227.trans (congrArg some (by kernel_rfl))
 f20:=⟨Tryz.f229.name,by decide,Tryz.func229.trans (congrArg some (by kernel_rfl))⟩
 f21:=⟨Tryz.f230.name,by decide,Tryz.func230.trans (congrArg some (by kernel_rfl))⟩
 f22:=⟨Tryz.f231.name,by decide,Tryz.func231.trans (congrArg some (by kernel_rfl))⟩
 f23:=⟨Tryz.f232.name,by decide,Tryz.func232.trans (congrArg some (by kernel_rfl))⟩
 f24:=⟨Tryz.f233.name,by decide,Tryz.func233.trans (congrArg some (by kernel_rfl))⟩
 f25:=⟨Tryz.f234.name,by decide,Tryz.func234.trans (congrArg some (by kernel_rfl))⟩
 f26:=⟨Tryz.f235.name,by decide,Tryz.func235.trans (congrArg some (by kernel_rfl))⟩
 f27:=⟨Tryz.f236.name,by decide,Tryz.func236.trans (congrArg some (by kernel_rfl))⟩
 f28:=Tryz.func237.trans (congrArg some (by kernel_rfl))
 f29:=Tryz.func238.trans (congrArg some (by kernel_rfl))
 f46:=⟨Tryz.f239.name,by decide,Tryz.func239.trans (congrArg some (by kernel_rfl))⟩
 f47:=Tryz.func240.trans (congrArg some (by kernel_rfl))
 f48:=Tryz.func241.trans (congrArg some (by kernel_rfl))
 f49:=⟨Tryz.f242.name,by decide,Tryz.func242.trans (congrArg some (by kernel_rfl))⟩
 f50:=⟨Tryz.f243.name,by decide,Tryz.func243.trans (congrArg some (by kernel_rfl))⟩
 f57:=⟨Tryz.f244.name,by decide,Tryz.func244.trans (congrArg some (by kernel_rfl))⟩
 t0:=Tryz.underlying0
 a0:=Tryz.isAgg0
 z0:=Tryz.sizeOf0
 v0:=Tryz.zeroValue0
 t3:=Tryz.underlying3
 a3:=Tryz.isAgg3
 z3:=Tryz.sizeOf3
 v3:=Tryz.zeroValue3
 t4:=Tryz.underlying4
 a4:=Tryz.isAgg4
 z4:=Tryz.sizeOf4
 v4:=Tryz.zeroValue4
 t5:=Tryz.underlying5
 a5:=Tryz.isAgg5
 z5:=Tryz.sizeOf5
 v5:=Tryz.zeroValue5
 t9:=Tryz.underlying9
 a9:=Tryz.isAgg9
 z9:=Tryz.sizeOf9
 v9:=Tryz.zeroValue9
 t22:=Tryz.underlying254
 a22:=Tryz.isAgg254
 z22:=Tryz.sizeOf254
 v22:=Tryz.zeroValue254
 t25:=Tryz.underlying329
 a25:=Tryz.isAgg329
 z25:=Tryz.sizeOf329
 v25:=Tryz.zeroValue329
 t39:=Tryz.underlying280
 a39:=Tryz.isAgg280
 z39:=Tryz.sizeOf280
 v39:=Tryz.zeroValue280
 t45:=Tryz.underlying338
 a45:=Tryz.isAgg338
 z45:=Tryz.sizeOf338
 v45:=Tryz.zeroValue338
 t46:=Tryz.underlying339
 a46:=Tryz.isAgg339
 z46:=Tryz.sizeOf339
 v46:=Tryz.zeroValue339
 t50:=Tryz.underlying310
 a50:=Tryz.isAgg310
 z50:=Tryz.sizeOf310
 v50:=Tryz.zeroValue310
 t53:=Tryz.underlying46
 a53:=Tryz.isAgg46
 z53:=Tryz.sizeOf46
 v53:=Tryz.zeroValue46
 t55:=Tryz.underlying39
 a55:=Tryz.isAgg39
 z55:=Tryz.sizeOf39
 v55:=Tryz.zeroValue39
 t66:=Tryz.underlying346
 a66:=Tryz.isAgg346
 z66:=Tryz.sizeOf346
 v66:=Tryz.zeroValue346
 t70:=Tryz.underlying349
 a70:=Tryz.isAgg349
 z70:=Tryz.sizeOf349
 v70:=Tryz.zeroValue349
 t76:=Tryz.underlying351
 a76:=Tryz.isAgg351
 z76:=Tryz.sizeOf351
 v76:=Tryz.zeroValue351
 t77:=Tryz.underlying352
 a77:=Tryz.isAgg352
 z77:=Tryz.sizeOf352
 v77:=Tryz.zeroValue352}
def Tryz.cloneL_ren:Go.Shelf.Ren:=⟨fun | 41=>215 | n=>n,fun | 22=>254 | 23=>317 | 4=>4 | n=>n,fun | n=>n⟩
theorem Tryz.cloneL:Go.Proofs.SlLaysE0.n41 Tryz.prog Tryz.cloneL_ren:={
 mixed:=by kernel_rfl
 f41:=⟨Tryz.f215.name,by decide,Tryz.func215.trans (congrArg some (by kernel_rfl))⟩
 t4:=Tryz.underlying4
 a4:=Tryz.isAgg4
 z4:=Tryz.sizeOf4
 v4:=Tryz.zeroValue4
 t22:=Tryz.underlying254
 a22:=Tryz.isAgg254
 z22:=Tryz.sizeOf254
 v22:=Tryz.zeroValue254}
end
end Go.Proofs
