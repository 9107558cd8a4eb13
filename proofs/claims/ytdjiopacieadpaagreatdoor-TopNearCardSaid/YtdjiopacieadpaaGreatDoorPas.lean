/- TopNear: part Pas: ScD RecS. -/
import Derived.Test.YtdjiopacieadpaaGreatDoorPar
set_option linter.unusedVariables false
set_option linter.unusedSimpArgs false
set_option maxRecDepth 8000
set_option maxHeartbeats 8000000
namespace Go.Proofs.YtdjiopacieadpaaGreatDoor
section
open Go.RowKit
attribute [local go_sem] Oper.semAt_some
def Frs (base ep:Nat)(v:Value)(xs:List Fr)(W:World):Prop:=W.ownsRow base 220 3 v xs.length (xs.flatMap (frC ep))∧ ∀x∈xs,frG base x W
def FScan (w:World)(ep seq:Nat)(b:List Nat)(e:Ending)(w':World):Prop:= ∃v xs,∃n:Int,e = .returned (.tuple #[v,.int .i64 n])∧xs.map frP=scanF ep (b.length+1) b 0 seq∧Frs w.heap.size ep v xs w'∧Below w.heap.size w w'
theorem info220:(Tryz.prog.info? 220).map (fun i=>(i.zero,i.size,i.bytes))=some (some (.agg #[.int .u64 0,.int .u64 0,.slice none 0 0]),3,40):=by kernel_rfl
set_option maxRecDepth 100000 in
theorem fscan_any (ep seq:Nat)(v:Value)(b:List Nat)(w:World)(hv:Sl w v (Lb b))(h0:0<b.length)(hl:b.length≤100000)(hbs:Bs b)(hT:Tab w)(hep:ep<18446744073709551616)(hseq:seq<18446744073709551616):
 Calls Tryz.prog 112 #[v,.int .u64 ep,.int .u64 seq] w (FScan w ep seq b):=by
 obtain ⟨oa,c,rfl,hc,hcm⟩:=Sl_partsB hv;obtain ⟨w1,hw1⟩:∃w1,(w.alloc (.cells #[.slice none 0 0] 149)).alloc (.cells #[.int .i64 0] 3)=w1:=⟨_,rfl⟩;have n1:=new1 w (.cells #[.slice none 0 0] 149);have n2:=new1 (w.alloc (.cells #[.slice none 0 0] 149)) (.cells #[.int .i64 0] 3);rw [hw1] at n2;rw [n1.2.1] at n2;have e1:w1.heap[w.heap.size]?=some (Obj.cells #[.slice none 0 0] 149 (0,0)):=(n2.2.2.block _ (by omega)).trans n1.1;have e2:w1.heap[w.heap.size+1]?=some (Obj.cells #[.int .i64 0] 3 (0,0)):=n2.1;have hb:Below w.heap.size w w1:=n1.2.2.trans (n2.2.2.mono (by omega));have hv1:=Sl_below hv hb (Nat.le_refl _);have hEa:=hid (feach_any ep seq _ b w1 hv1 h0 hl (hT.below hb hT.size));have hEq:=hid hw1;have HB:=hid hb;have HT:=hid hT;have E1:=hid e1;have E2:=hid e2;have HSZ:=hid n2.2.1;clear n1 n2 e1 e2 hb hv1 hv hT hw1;refine callsIn_wide (n:=5).1 (callsIn_of_wp_marks Tryz.func112 rfl trivial ?_ rfl);simp only [Tryz.ntmps112,List.size_toArray,List.length_cons,List.length_nil,Nat.reduceAdd,Nat.reduceSub,Array.replicate_succ,Array.replicate_zero,List.push_toArray,List.append_toArray,List.nil_append,List.cons_append];gi_wp2_with fail
 rw [hEq.out];refine ⟨trivial,CallsIn.mono (wide_in hEa.out) ?_⟩;rintro e w2 ⟨A,B,C,g,cap,rfl,hEs,hb2,hA,hB,hC,hg⟩;have hw1:1<w.heap.size:=HT.out.size;have hO2:w2.heap[w.heap.size]?=some (Obj.cells #[.slice none 0 0] 149 (0,0)):=Bl.blk hb2 E1.out;have hN2:w2.heap[w.heap.size+1]?=some (Obj.cells #[.int .i64 0] 3 (0,0)):=Bl.blk hb2 E2.out;have hO:w.heap.size+1<w2.heap.size:=heap_lt hN2;have hsz:=HSZ.out;have hE:∀k,Ek A B C g k→k<w2.heap.size∧k≠w.heap.size∧k≠w.heap.size+1:=fun k hk=>by
  refine ⟨hEs.lt h0 k hk,?_⟩;rcases hk with rfl | rfl | rfl | rfl | rfl<;>omega
 have hbw:Below w.heap.size w w2:=HB.out.trans (hb2.mono (by omega));have hsq:=each_seq ep seq 4 A B C g cap b (Gdn w2 w.heap.size) (Kq A B C g w.heap.size) w2 (fun W W' _ h=>h.1) (fun W c t W' h k=>h.fresh W c t W' k) hseq hep hl hbs h0 hEs;have HSQ:=hid hsq;have HEK:=hid hE;have HBW:=hid hbw;have HO:=hid hO;have HO2:=hid hO2;have HN2:=hid hN2;clear hsq hE hbw hO2 hN2 hb2 hEs hA hB hC hg hw1 hsz;gi_wp2_with fail
 refine range_laidM (by omega) (gf:=187) (lb:=#[.pointer (some ⟨A,0,none⟩),.pointer (some ⟨B,0,none⟩),.pointer (some ⟨C,0,none⟩)]) rfl (enters_of Tryz.func187 (by kernel_rfl) rfl) HSQ.out Kq.trans ?kb (fun _=>rfl)
  (fun pre W=>Scn w2 w.heap.size ep pre W) ?own (fun pre W h=>h.gd hO) ?start
  (fun pre x a1 W=> ∃X,W.heap[X]?=some (Obj.cells #[.int .u64 ep,.int .u64 x.2.1,x.2.2.1] 220 (0,0))∧w2.heap.size≤X∧Scn w2 w.heap.size ep pre W∧frG w2.heap.size x W∧ ¬rowAt w.heap.size W X∧a1={tmps:=#[Value.slice oa b.length c,.int .u64 ep,.int .u64 seq,undef,undef,undef,.slice none 0 0,.int .i64 0,.pointer (some ⟨w.heap.size,0,none⟩),.pointer (some ⟨w.heap.size+1,0,none⟩),.int .i64 x.1,.pointer (some ⟨X,0,none⟩),.slice oa b.length c,.int .u64 ep,.int .u64 seq,.func (.func 187) #[] #[.pointer (some ⟨A,0,none⟩),.pointer (some ⟨B,0,none⟩),.pointer (some ⟨C,0,none⟩)],.int .i64 x.1,.agg #[.int .u64 ep,.int .u64 x.2.1,x.2.2.1],undef,undef,undef,undef,undef,undef,undef,undef,undef,undef,undef,undef],defers:=[]}) ?stay ?assign ?body ?done
 case kb=>
  intro W l o o' hl ho hc hk;exact ⟨Kzs.put (w:=w2) (fun k hk=>(HEK.out k hk).1) W l o o' hl ho hc hk,Kr.put (by omega) ho hc⟩
 case own=>
  intro s W W' row hs hg hr;exact hs.turn hg hr
 case start=>exact ⟨Kp.refl _ _,⟨_,HO2.out,⟨rfl,Or.inl ⟨rfl,rfl⟩⟩⟩,⟨0,HN2.out⟩,fun x hx=>by simp at hx⟩
 case stay=>
  rintro pre x a1 W l o o' hl ho hc ⟨X,hX,hX6,hs,hG,hXr,rfl⟩;have hXl:X≠l:=fun e=>by rw [e,ho] at hX;cases hX;cases hc
  have hr:∀r,some l=some r→ ∃o:Obj,W.heap[r]?=some o∧o.isCells=false:=fun r e=>by injection e with e;subst e;exact ⟨o,ho,hc⟩
  exact ⟨X,(World.putObj_heap_other hXl).trans hX,hX6,hs.turn (put_grown W l o') (fun r e=>⟨by injection e with e;omega,hr r e⟩),frG.kept hG (fun g cur e=>(turned (put_grown W l o') hr e).trans e.symm),fun e=>hXr (e.back (World.putObj_heap_other (by omega))),rfl⟩
 case assign=>
  rintro l pre ⟨x1,x2,x3,x4⟩ W hs hG hlen;obtain ⟨xa,xn,e3,_,_⟩:=own_form hG.1;dsimp only at e3;subst e3;have HS:=hid hs;have HG:=hid hG;clear hs hG;dsimp only [frE];gi_wp2
  have N:=new1 W (.cells #[.int .u64 ep,.int .u64 x2,.slice xa x4.length xn] 220);have hsw:=HS.out.kp.size;exact ⟨⟨W.heap.size,N.1,hsw,HS.out.new N.2.2,frG.kept HG.out (fun g cur e=>(N.2.2.block g (heap_lt e))),fun e=>by have:=(HS.out.gd hO).2.2 _ (e.back (N.2.2.block w.heap.size (by omega)));omega,rfl⟩,(KeepsOthers.alloc W _).from _,⟨fun k e=>N.2.2.block k (by have:=(HEK.out k e).1;omega),N.2.2.size⟩,Kr.below (by omega) N.2.2⟩
 case body=>
  rintro l pre ⟨x1,x2,x3,x4⟩ a1 W ⟨X,hX,hX6,hs,hG,hXr,rfl⟩ hlen;obtain ⟨xa,xn,e3,_,_⟩:=own_form hG.1;dsimp only at e3 hX;subst e3;dsimp only;obtain ⟨v,hbx,hown⟩:=hs.bx;generalize pre=PL at *;obtain ⟨oa,rn,erv,_,_⟩:=own_form hown;subst erv;have k3:=hbx.cell;have f3:=hbx.frozen;obtain ⟨y0,_,y1,_,y2,_⟩:=cells3 hX;have hx32:x4.length≤32:=hG.2.1;have hx1:x1≤100000:=hG.2.2.1;have HS:=hid hs;have HG:=hid hG;have HBX:=hid hbx;have HOWN:=hid hown;have HXX:=hid hX;have HX6:=hid hX6;have HLE:=hid (show PL.length<10000 by omega);have HSW:=hid hs.kp.size;have HXN:=hid (fun e=>hXr ⟨_,hbx,e⟩);clear hs hG hbx hown hX hX6 hXr;gi_wp2_with fail
  refine region_in_held (fun w'=>w'.cell? ⟨X,0,none⟩=some (.int .u64 ep)∧w'.cell? ⟨X,1,none⟩=some (.int .u64 x2)∧w'.cell? ⟨X,2,none⟩=some (.slice xa x4.length xn)) (by kernel_rfl) (no_defer (by kernel_rfl)) (by rintro ⟨a,w,h⟩;cases h.1) ⟨y0,y1,y2⟩ (fun hHeld=>?_);refine tkm 5 [(1,19),(5,23),(6,24),(7,25),(4,22)] (by kernel_rfl) (fun _ _ _ _ _ h=>h) (by assumption) ?_;iterate 5
   refine ysC (v:=?_) rfl rfl (fun w9 hS9=>?_) ?_;rotate_left
   ·try dsimp only at hS9
    go_split_ands;go_simp;try with_reducible rfl
   simp only [Act.put,List.setIfInBounds_toArray,List.set_cons_zero,List.set_cons_succ]
  refine ysN ?_;have N9:=new1 W (.cells #[.int .u64 ep,.int .u64 x2,.slice xa x4.length xn] 220);have hXb:(W.alloc (Obj.cells #[.int .u64 ep,.int .u64 x2,.slice xa x4.length xn] 220)).drew.heap[W.heap.size]?=some (Obj.cells #[.int .u64 ep,.int .u64 x2,.slice xa x4.length xn] 220 (0,0)):=N9.1;have hXB:Below W.heap.size W (W.alloc (Obj.cells #[.int .u64 ep,.int .u64 x2,.slice xa x4.length xn] 220)).drew :=N9.2.2.drew;have hXS:(W.alloc (Obj.cells #[.int .u64 ep,.int .u64 x2,.slice xa x4.length xn] 220)).drew.heap.size = W.heap.size+1:=N9.2.1;have hO9:w.heap.size+1<W.heap.size:=by have:=HSW.out;omega
  have k3':(W.alloc (Obj.cells #[.int .u64 ep,.int .u64 x2,.slice xa x4.length xn] 220)).cell? ⟨w.heap.size,0,none⟩=some (.slice oa PL.length rn):=(hXB.cell (p:=⟨w.heap.size,0,none⟩) (by dsimp only;omega)).trans k3;have hkeep2:∀W9:World,W9.heap[X]?=W.heap[X]? →(W9.cell? ⟨X,0,none⟩=some (.int .u64 ep)∧W9.cell? ⟨X,1,none⟩=some (.int .u64 x2)∧W9.cell? ⟨X,2,none⟩=some (.slice xa x4.length xn)):=by
   intro W9 hb9;exact ⟨(World.cell?_of_block (w:=W) (a:=⟨X,0,none⟩) hb9).trans y0,(World.cell?_of_block (w:=W) (a:=⟨X,1,none⟩) hb9).trans y1,(World.cell?_of_block (w:=W) (a:=⟨X,2,none⟩) hb9).trans y2⟩
  have HX:=hid hXb;have HKEEP:=hid (hkeep2 _ (hXB.block X (heap_lt HXX.out)));have HKEEP2:=hid hkeep2;have HXB:=hid hXB;have HXS:=hid hXS;have HROW:=hid (own_below HOWN.out hXB (Nat.le_refl _));obtain ⟨i0,hi0,hz0,hz1,hz3⟩:=info_parts info220;have HI0:=hid hi0;have HZ3:=hid hz3;clear N9 hXb hXB hXS hkeep2 hi0 hz3;refine rd2 0 2 (by kernel_rfl) rfl rfl (fun K9 hK9=>?_) (fun K9 hK9=>?_)
  ·go_simp;refine hK9.out _ _ hHeld (fun hHeld=>?_);clear hK9 K9;refine rd1 2 (by kernel_rfl) rfl (fun K9 hK9=>?_);go_simp;refine hK9.out _ _ HKEEP.out (fun hHeld=>?_);clear hK9 K9;refine rd1 3 (by kernel_rfl) rfl (fun K9 hK9=>?_);refine step_append_lies _ (by rfl) _ _ 149 (by rfl) w2.heap.size 220 i0 (.agg #[.int .u64 0,.int .u64 0,.slice none 0 0]) 3 40 Tryz.underlying149 HI0.out hz0 hz1 HZ3.out (by rfl) (by decide) (.slice oa PL.length rn) PL.length (PL.flatMap (frC ep)) (by rfl) HROW.out ⟨W.heap.size,0,none⟩ 1 1 [.int .u64 ep,.int .u64 x2,.slice xa x4.length xn] (by rfl) (by rfl) (World.news_of_block HX.out) (by simp [Value.oneCell']) (by decide) (by have:=HLE.out;unfold maxLen;omega) (by have:=HLE.out;omega) (by have:=HSW.out;have:=HXS.out;omega) (W.heap.size+1) HXS.out ?_;intro g9 cap9 w4 hown hgrow hat hlt;obtain ⟨hbx4,⟨n0,hbn4⟩,hold4,hfin⟩:=scan_tail (n9:=IntKind.i64.wrap ((x1:Int)+(22+(x4.length:Int)))) (x:=(x1,x2,.slice xa x4.length xn,x4)) HO.out HS.out HG.out HBX.out HOWN.out HXB.out HXS.out hown hgrow hat HEK.out;have c4:=hbx4.cell;have f4:=hbx4.frozen;have c5:=hbn4.cell;have f5:=hbn4.frozen;have HFIN:=hid hfin;have HSIZE:=hid (fsize_any x4.length w4 (by omega));have HS4E:=hid (hold4 X (heap_lt HXX.out) HXN.out);have hS4:=HKEEP2.out w4 HS4E.out;refine hK9.out _ _ hS4 (fun hHeld=>?_);clear hK9 K9 hown hgrow hat hlt hfin hold4;refine rd1 8 (by kernel_rfl) rfl (fun K9 hK9=>?_);go_simp;refine HSIZE.out.mono ?_;rintro e w5 ⟨rfl,rfl⟩;go_simp;have hS5:=HKEEP2.out (w4.setCell ⟨w.heap.size,0,none⟩ (.slice (some ⟨g9,0,none⟩) (PL.length+1) cap9)) ((heap_setCell_ne _ (p:=⟨w.heap.size,0,none⟩) _ (by show X≠w.heap.size;have:=HX6.out;omega)).trans HS4E.out);have hS6:=HKEEP2.out ((w4.setCell ⟨w.heap.size,0,none⟩ (.slice (some ⟨g9,0,none⟩) (PL.length+1) cap9)).setCell ⟨w.heap.size+1,0,none⟩ (.int .i64 (IntKind.i64.wrap ((x1:Int)+(22+(x4.length:Int)))))) ((heap_setCell_ne _ (p:=⟨w.heap.size+1,0,none⟩) _ (by show X≠w.heap.size+1;have:=HX6.out;omega)).trans ((heap_setCell_ne _ (p:=⟨w.heap.size,0,none⟩) _ (by show X≠w.heap.size;have:=HX6.out;omega)).trans HS4E.out));have HS5:=hid hS5;have HS6:=hid hS6;clear hS5 hS6;refine hK9.out _ _ hHeld (fun hHeld=>?_);clear hK9 K9;refine rd2 9 10 (by kernel_rfl) rfl rfl (fun K9 hK9=>?_) (fun K9 hK9=>?_)
   ·go_simp;refine hK9.out _ _ hHeld (fun hHeld=>?_);clear hK9 K9;refine rd1 10 (by kernel_rfl) rfl (fun K9 hK9=>?_);go_simp;refine hK9.out _ _ HS5.out (fun hHeld=>?_);clear hK9 K9;refine rd1 11 (by kernel_rfl) rfl (fun K9 hK9=>?_);go_simp;refine hK9.out _ _ HS6.out (fun hHeld=>?_);clear hK9 K9;refine wpAnyH_done (by kernel_rfl) ?_ _;exact ⟨rfl,HFIN.out⟩
   ·go_simp;refine hK9.out _ _ HS5.out (fun hHeld=>?_);clear hK9 K9;refine rd1 9 (by kernel_rfl) rfl (fun K9 hK9=>?_);go_simp;refine hK9.out _ _ HS5.out (fun hHeld=>?_);clear hK9 K9;refine rd1 11 (by kernel_rfl) rfl (fun K9 hK9=>?_);go_simp;refine hK9.out _ _ HS6.out (fun hHeld=>?_);clear hK9 K9;refine wpAnyH_done (by kernel_rfl) ?_ _;exact ⟨rfl,HFIN.out⟩
  ·go_simp;refine hK9.out _ _ HKEEP.out (fun hHeld=>?_);clear hK9 K9;refine rd1 0 (by kernel_rfl) rfl (fun K9 hK9=>?_);go_simp;refine hK9.out _ _ hHeld (fun hHeld=>?_);clear hK9 K9;refine rd1 3 (by kernel_rfl) rfl (fun K9 hK9=>?_);refine step_append_lies _ (by rfl) _ _ 149 (by rfl) w2.heap.size 220 i0 (.agg #[.int .u64 0,.int .u64 0,.slice none 0 0]) 3 40 Tryz.underlying149 HI0.out hz0 hz1 HZ3.out (by rfl) (by decide) (.slice oa PL.length rn) PL.length (PL.flatMap (frC ep)) (by rfl) HROW.out ⟨W.heap.size,0,none⟩ 1 1 [.int .u64 ep,.int .u64 x2,.slice xa x4.length xn] (by rfl) (by rfl) (World.news_of_block HX.out) (by simp [Value.oneCell']) (by decide) (by have:=HLE.out;unfold maxLen;omega) (by have:=HLE.out;omega) (by have:=HSW.out;have:=HXS.out;omega) (W.heap.size+1) HXS.out ?_;intro g9 cap9 w4 hown hgrow hat hlt;obtain ⟨hbx4,⟨n0,hbn4⟩,hold4,hfin⟩:=scan_tail (n9:=IntKind.i64.wrap ((x1:Int)+(22+(x4.length:Int)))) (x:=(x1,x2,.slice xa x4.length xn,x4)) HO.out HS.out HG.out HBX.out HOWN.out HXB.out HXS.out hown hgrow hat HEK.out;have c4:=hbx4.cell;have f4:=hbx4.frozen;have c5:=hbn4.cell;have f5:=hbn4.frozen;have HFIN:=hid hfin;have HSIZE:=hid (fsize_any x4.length w4 (by omega));have HS4E:=hid (hold4 X (heap_lt HXX.out) HXN.out);have hS4:=HKEEP2.out w4 HS4E.out;refine hK9.out _ _ hS4 (fun hHeld=>?_);clear hK9 K9 hown hgrow hat hlt hfin hold4;refine rd1 8 (by kernel_rfl) rfl (fun K9 hK9=>?_);go_simp;refine HSIZE.out.mono ?_;rintro e w5 ⟨rfl,rfl⟩;go_simp;have hS5:=HKEEP2.out (w4.setCell ⟨w.heap.size,0,none⟩ (.slice (some ⟨g9,0,none⟩) (PL.length+1) cap9)) ((heap_setCell_ne _ (p:=⟨w.heap.size,0,none⟩) _ (by show X≠w.heap.size;have:=HX6.out;omega)).trans HS4E.out);have hS6:=HKEEP2.out ((w4.setCell ⟨w.heap.size,0,none⟩ (.slice (some ⟨g9,0,none⟩) (PL.length+1) cap9)).setCell ⟨w.heap.size+1,0,none⟩ (.int .i64 (IntKind.i64.wrap ((x1:Int)+(22+(x4.length:Int)))))) ((heap_setCell_ne _ (p:=⟨w.heap.size+1,0,none⟩) _ (by show X≠w.heap.size+1;have:=HX6.out;omega)).trans ((heap_setCell_ne _ (p:=⟨w.heap.size,0,none⟩) _ (by show X≠w.heap.size;have:=HX6.out;omega)).trans HS4E.out));have HS5:=hid hS5;have HS6:=hid hS6;clear hS5 hS6;refine hK9.out _ _ hHeld (fun hHeld=>?_);clear hK9 K9;refine rd2 9 10 (by kernel_rfl) rfl rfl (fun K9 hK9=>?_) (fun K9 hK9=>?_)
   ·go_simp;refine hK9.out _ _ hHeld (fun hHeld=>?_);clear hK9 K9;refine rd1 10 (by kernel_rfl) rfl (fun K9 hK9=>?_);go_simp;refine hK9.out _ _ HS5.out (fun hHeld=>?_);clear hK9 K9;refine rd1 11 (by kernel_rfl) rfl (fun K9 hK9=>?_);go_simp;refine hK9.out _ _ HS6.out (fun hHeld=>?_);clear hK9 K9;refine wpAnyH_done (by kernel_rfl) ?_ _;exact ⟨rfl,HFIN.out⟩
   ·go_simp;refine hK9.out _ _ HS5.out (fun hHeld=>?_);clear hK9 K9;refine rd1 9 (by kernel_rfl) rfl (fun K9 hK9=>?_);go_simp;refine hK9.out _ _ HS5.out (fun hHeld=>?_);clear hK9 K9;refine rd1 11 (by kernel_rfl) rfl (fun K9 hK9=>?_);go_simp;refine hK9.out _ _ HS6.out (fun hHeld=>?_);clear hK9 K9;refine wpAnyH_done (by kernel_rfl) ?_ _;exact ⟨rfl,HFIN.out⟩
 case done=>
  rintro D xs W hD hxs hI hK;obtain ⟨v,hbx,hown⟩:=hI.bx;obtain ⟨n,hn⟩:=hI.nx;obtain ⟨oa9,rn,erv,_,_⟩:=own_form hown;subst erv;have c3:=hbx.cell;have c4:=hn.cell;have hB:Below w.heap.size w W:=HBW.out.trans (hI.kp.below HBW.out.size (fun y e=>by rcases e with e | e<;>omega));have HI:=hid hI;have HB9:=hid hB;have HXS:=hid hxs;have HK:=hid hK;clear hbx hn hown hI hB hxs hK;gi_wp2_with fail
  gi_region
  have hKd:W.drew.heap[D]?=some (Obj.deferred (some [])):=HK.out;have hB2:Below w.heap.size w (W.drew.putObj D (.deferred none)):=HB9.out.drew.trans (belowK_b (w:=w) (Nat.le_refl _) W.drew D _ _ (by have:=HBW.out.size;omega) hKd rfl rfl);have hg:=put_grown W.drew D (.deferred none);have hr:∀r,some D=some r→ ∃o:Obj,W.drew.heap[r]?=some o∧o.isCells=false:=fun r e=>by injection e with e;subst e;exact ⟨_,hKd,rfl⟩
  have hfrs:Frs w.heap.size ep (.slice oa9 xs.length rn) xs (W.drew.putObj D (.deferred none)):=by
   obtain ⟨v,hbx,hown⟩:=HI.out.bx;have e1:v = .slice oa9 xs.length rn:=by have:=hbx.cell.symm.trans c3;injection this
   subst e1;have hle:w.heap.size≤w2.heap.size:=HBW.out.size;refine ⟨own_mono (own_kept hown (fun g cur _ e=>(turned hg hr (k:=g) (W:=W.drew) e).trans e.symm)) hle,fun x hx=>?_⟩;have h9:=frG.kept (HI.out.bd x hx) (W':=W.drew.putObj D (.deferred none)) (fun g cur e=>(turned hg hr (k:=g) (W:=W.drew) e).trans e.symm);exact ⟨own_mono h9.1 hle,h9.2⟩
  have HFR:=hid hfrs;have HB2:=hid hB2;clear hB2 hfrs hg hr;gi_wp2
  refine ⟨by simp,.inl ⟨_,_,rfl,run_takeDeferred hKd,?_⟩⟩;refine ⟨.tuple #[.slice oa9 xs.length rn,.int .i64 n],by simp [results,Tryz.results112,go_sem],?_⟩;exact ⟨_,xs,n,rfl,HXS.out,HFR.out,HB2.out⟩
def szS (a b c d:Bool)(k:Nat):Nat:=1+(if 0<k∧a=true then 4 else 0)+(if 1<k∧b=true then 2 else 0)+(if 2<k∧c=true then 8 else 0)+(if 3<k∧d=true then 8 else 0)
theorem idx0 (a b c d:Bool)(w:World):(Instr.index 306 (.agg #[.bool a,.int .i64 4,.bool b,.int .i64 2,.bool c,.int .i64 8,.bool d,.int .i64 8]) (.int .i64 0)).run Tryz.prog w = .ok (.agg #[.bool a,.int .i64 4]) w:=by kernel_rfl
theorem idx1 (a b c d:Bool)(w:World):(Instr.index 306 (.agg #[.bool a,.int .i64 4,.bool b,.int .i64 2,.bool c,.int .i64 8,.bool d,.int .i64 8]) (.int .i64 1)).run Tryz.prog w = .ok (.agg #[.bool b,.int .i64 2]) w:=by kernel_rfl
theorem idx2 (a b c d:Bool)(w:World):(Instr.index 306 (.agg #[.bool a,.int .i64 4,.bool b,.int .i64 2,.bool c,.int .i64 8,.bool d,.int .i64 8]) (.int .i64 2)).run Tryz.prog w = .ok (.agg #[.bool c,.int .i64 8]) w:=by kernel_rfl
theorem idx3 (a b c d:Bool)(w:World):(Instr.index 306 (.agg #[.bool a,.int .i64 4,.bool b,.int .i64 2,.bool c,.int .i64 8,.bool d,.int .i64 8]) (.int .i64 3)).run Tryz.prog w = .ok (.agg #[.bool d,.int .i64 8]) w:=by kernel_rfl
theorem shsize_any (a b c d:Bool)(w:World):Calls Tryz.prog 156 #[.agg #[.bool a,.bool b,.bool c,.bool d]] w fun e w'=>e = .returned (.int .i64 (szS a b c d 4:Int))∧Below w.heap.size w w':=by
 go_enter Tryz.func156,Tryz.ntmps156;go_wp2_with fail;have HB:=hid ((Below.refl w.heap.size w).alloc (Nat.le_refl _) (.cells #[.bool a,.bool b,.bool c,.bool d] 267));go_loopw [19,3] (fun i n wi=> ∃(k:Nat) (K N:Int),k≤4∧K=(k:Int)∧i = .int .i64 K∧n = .int .i64 N∧N=(szS a b c d k:Int)∧Below w.heap.size w wi) (fun i n _=>4-(intOf i).toNat)
 case atStart=>exact ⟨0,0,1,by omega,rfl,rfl,rfl,by simp [szS],HB.out⟩
 case round=>
  obtain ⟨k,K,N,hk,hK,rfl,rfl,hN,hbI⟩:=hrel;have HBI:=hid hbI;have HN:=hid hN;have hN1:0≤N∧N≤30:=by
   rw [hN];unfold szS;repeat' split
   all_goals omega
  obtain ⟨hN1,hN2⟩:=hN1;clear hbI hN;have h4:k=0∨k=1∨k=2∨k=3∨k=4:=by omega
  rcases h4 with h4 | h4 | h4 | h4 | h4
  ·subst h4;obtain rfl:K=0:=hK;clear hk;have hx:=idx0 a b c d;cases a
   ·go_wp2_with fail;go_roundw;case rel=>exact ⟨1,1,N,by omega,rfl,rfl,rfl,by rw [HN.out];simp [szS],HBI.out.alloc (HBI.out.size) _⟩
    case measure=>simp [intOf]
   ·go_wp2_with fail;go_roundw;case rel=>exact ⟨1,1,N+4,by omega,rfl,rfl,rfl,by rw [HN.out];simp [szS],HBI.out.alloc (HBI.out.size) _⟩
    case measure=>simp [intOf]
  ·subst h4;obtain rfl:K=1:=hK;clear hk;have hx:=idx1 a b c d;cases b
   ·go_wp2_with fail;go_roundw;case rel=>exact ⟨2,2,N,by omega,rfl,rfl,rfl,by rw [HN.out];simp [szS],HBI.out.alloc (HBI.out.size) _⟩
    case measure=>simp [intOf]
   ·go_wp2_with fail;go_roundw;case rel=>exact ⟨2,2,N+2,by omega,rfl,rfl,rfl,by rw [HN.out];simp [szS],HBI.out.alloc (HBI.out.size) _⟩
    case measure=>simp [intOf]
  ·subst h4;obtain rfl:K=2:=hK;clear hk;have hx:=idx2 a b c d;cases c
   ·go_wp2_with fail;go_roundw;case rel=>exact ⟨3,3,N,by omega,rfl,rfl,rfl,by rw [HN.out];simp [szS],HBI.out.alloc (HBI.out.size) _⟩
    case measure=>simp [intOf]
   ·go_wp2_with fail;go_roundw;case rel=>exact ⟨3,3,N+8,by omega,rfl,rfl,rfl,by rw [HN.out];simp [szS],HBI.out.alloc (HBI.out.size) _⟩
    case measure=>simp [intOf]
  ·subst h4;obtain rfl:K=3:=hK;clear hk;have hx:=idx3 a b c d;cases d
   ·go_wp2_with fail;go_roundw;case rel=>exact ⟨4,4,N,by omega,rfl,rfl,rfl,by rw [HN.out];simp [szS],HBI.out.alloc (HBI.out.size) _⟩
    case measure=>simp [intOf]
   ·go_wp2_with fail;go_roundw;case rel=>exact ⟨4,4,N+8,by omega,rfl,rfl,rfl,by rw [HN.out];simp [szS],HBI.out.alloc (HBI.out.size) _⟩
    case measure=>simp [intOf]
  ·subst h4;obtain rfl:K=4:=hK;go_wp2_with fail;go_ret;exact ⟨by rw [←HN.out];rfl,HBI.out⟩
def szR (k:Int):Nat:=if k=1 then 15 else if k=4 then 7 else if k=5 then 9 else if 1≤k∧k≤5 then 5 else 0
theorem szS_of {k:Int}(h:isK k=true):szS (hasI k) (hasS k) (hasU k) (hasC k) 4=szR k:=by
 unfold isK at h;rw [decide_eq_true_iff] at h;obtain h1 | h1 | h1 | h1 | h1:k=1∨k=2∨k=3∨k=4∨k=5:=by omega
 all_goals subst h1;decide
theorem recsize_any (k:Int)(w:World):Calls Tryz.prog 221 #[.int .i64 k] w fun e w'=>e = .returned (.int .i64 (szR k:Int))∧Below w.heap.size w w':=by
 have HO:=hid (recof_any k);unfold shC at HO;cases hok:isK k with
 | false=>
  rw [hok] at HO;have h0:szR k=0:=by
   unfold isK at hok;rw [decide_eq_false_iff_not] at hok;unfold szR;rw [if_neg (by omega),if_neg (by omega),if_neg (by omega),if_neg (by omega)]
  rw [h0];clear hok h0;go_enter Tryz.func221,Tryz.ntmps221;go_wp2_with (go_at_call 155;refine (HO.out _).mono ?_;rintro e w1 ⟨rfl,hb⟩;have HB:=hid hb;clear hb);go_ret;exact ⟨rfl,HB.out.trans (((Below.refl _ _).alloc (Nat.le_refl _) _).mono HB.out.size)⟩
 | true=>
  rw [hok] at HO;rw [←szS_of hok];clear hok;generalize hasI k=a at HO ⊢;generalize hasS k=b at HO ⊢;generalize hasU k=c at HO ⊢;generalize hasC k=d at HO ⊢;go_enter Tryz.func221,Tryz.ntmps221;go_wp2_with (first | (go_at_call 155;refine (HO.out _).mono ?_;rintro e w1 ⟨rfl,hb⟩;have HB:=hid hb;clear hb) | (go_at_call 156;refine (shsize_any _ _ _ _ _).mono ?_;rintro e w2 ⟨rfl,hb⟩;have HB2:=hid hb;clear hb));go_ret;exact ⟨rfl,Bl.trans (HB.out.trans (((Below.refl _ _).alloc (Nat.le_refl _) _).mono HB.out.size)) HB2.out⟩
end
end Go.Proofs.YtdjiopacieadpaaGreatDoor
