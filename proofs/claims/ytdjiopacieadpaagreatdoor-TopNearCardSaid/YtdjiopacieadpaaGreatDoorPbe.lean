/- TopNear: part Pbe: CsB CsC CsD CsE. -/
import Derived.Test.YtdjiopacieadpaaGreatDoorPbd
set_option linter.unusedVariables false
set_option linter.unusedSimpArgs false
set_option maxRecDepth 8000
set_option maxHeartbeats 8000000
namespace Go.Proofs.YtdjiopacieadpaaGreatDoor
section
open Go.RowKit BookPlain
theorem rule4_any (p:Nat)(F:Nat→Prop)(K:Nat)(b:Bk)(q:Rq)(r:Rec)(room need:Nat)(w:World)(h:Bkk w p F K b):Calls Tryz.prog 204 #[.agg (askC p q r room)] w (CRule w p F K b (ruleF b q need room 4)):=by
 obtain ⟨W,hW⟩:∃W,w.alloc (.cells (askC p q r room) 291)=W:=⟨_,rfl⟩;have N:=new1 w (.cells (askC p q r room) 291);rw [hW] at N;unfold askC at *;obtain ⟨c0,_,c1,_,c2,_,c3,_,c4,_,c5,_,c6,_,c7,_,c8,_,c9,_,c10,_,c11,_⟩:=cells12 N.1;have HN:=hid N;have hAl:w.heap.size<W.heap.size:=by omega
 have HL:=hid (fun W' (hb:Below w.heap.size w W')=>klen p F K b W' (h.new hb));have HS:=hid (fun W' (hb:Below w.heap.size w W')=>kshape p F K b W' (h.new hb));have HX:=hid (fun W' (hb:Below w.heap.size w W')=>knext p F K b W' (h.new hb));have HC:=hid (fun n W' (hb:Below w.heap.size w W')=>CRule.below (n:=n) h hb);have hf:=fld1 b.s b.c b.g;clear N h;by_cases h1:b.c≤nT b.l
 ·have hv:ruleF b q need room 4=6:=by show (if b.c≤nT b.l∨b.next=4294967295 then 6 else 0)=6;rw [if_pos (Or.inl h1)]
  have d1:decide (b.c≤nT b.l)=true:=by simpa using h1
  have d2:decide ((b.c:Int)≤(nT b.l:Int))=true:=by simpa using h1
  rw [hv];clear hv;generalize nT b.l=ln at *;go_enter Tryz.func204,Tryz.ntmps204;go_wp2_with fail;refine wp_region_held_drew (S:=fun w'=>w'.cell? ⟨w.heap.size,0,none⟩=some (.pointer (some ⟨p,0,none⟩))∧True) (by kernel_rfl) (⟨c0,trivial⟩) (fun hHeld=>?_);refine tkm 4 [(0,3),(1,4),(3,6),(4,7)] (by kernel_rfl) (fun _ _ _ _ _ h=>h) (by assumption) ?_;iterate 4
   refine ysC (v:=?_) rfl rfl (fun w9 hS9=>?_) ?_;rotate_left
   ·try dsimp only at hS9
    go_split_ands;go_simp;try with_reducible rfl
   simp only [Act.put,List.setIfInBounds_toArray,List.set_cons_zero,List.set_cons_succ]
  refine ysN ?_;refine rd1 2 (by kernel_rfl) rfl (fun K9 hK9=>?_);go_simp;refine (HL.out _ HN.out.2.2.drew).mono ?_;rintro e w3 ⟨rfl,rfl⟩;go_simp;refine hK9.out _ _ hHeld (fun hHeld=>?_);clear hK9 K9;refine rd1 5 (by kernel_rfl) rfl (fun K9 hK9=>?_);go_simp;refine (HS.out _ HN.out.2.2.drew).mono ?_;rintro e w3 ⟨rfl,hb⟩;have HB3:=hid (HN.out.2.2.drew.trans (hb.mono (Nat.le_of_lt hAl)));have e0:=(hb.cell (p:=⟨w.heap.size,0,none⟩) hAl).trans c0;clear hb;go_simp;refine hK9.out _ _ ⟨e0,trivial⟩ (fun hHeld=>?_);clear hK9 K9;refine tkm 3 [(6,9),(7,10),(8,11)] (by kernel_rfl) (fun _ _ _ _ _ h=>h) (by assumption) ?_;iterate 3
   refine ysC (v:=?_) rfl rfl (fun w9 hS9=>?_) ?_;rotate_left
   ·try dsimp only at hS9
    go_split_ands;go_simp;try with_reducible rfl
   simp only [Act.put,List.setIfInBounds_toArray,List.set_cons_zero,List.set_cons_succ]
  refine ysN ?_;refine takeRH (i:=9) (d:=some 12) (v:=undef) rfl rfl (by kernel_rfl) (by kernel_rfl) (by kernel_rfl) (fun _ _ _ h=>h) (Or.inr ⟨rfl,rfl⟩) (by assumption) ?_;simp only [Act.put,List.setIfInBounds_toArray,List.set_cons_zero,List.set_cons_succ];refine takeRH (i:=10) (d:=some 13) (v:=undef) rfl rfl (by kernel_rfl) (by kernel_rfl) (by kernel_rfl) (fun _ _ _ h=>h) (Or.inr ⟨rfl,rfl⟩) (by assumption) ?_;simp only [Act.put,List.setIfInBounds_toArray,List.set_cons_zero,List.set_cons_succ];refine takeRH (i:=11) (d:=some 14) (v:=undef) rfl rfl (by kernel_rfl) (by kernel_rfl) (by kernel_rfl) (fun _ _ _ h=>h) (Or.inr ⟨rfl,rfl⟩) (by assumption) ?_;simp only [Act.put,List.setIfInBounds_toArray,List.set_cons_zero,List.set_cons_succ];refine takeRH (i:=12) (d:=some 15) (v:=undef) rfl rfl (by kernel_rfl) (by kernel_rfl) (by kernel_rfl) (fun _ _ _ h=>h) (Or.inr ⟨rfl,rfl⟩) (by assumption) ?_;simp only [Act.put,List.setIfInBounds_toArray,List.set_cons_zero,List.set_cons_succ];refine tkm 1 [(13,16)] (by kernel_rfl) (fun _ _ _ _ _ h=>h) (by assumption) ?_;refine ysC (v:=?_) rfl rfl (fun w9 hS9=>?_) ?_;rotate_left
  ·try dsimp only at hS9
   go_split_ands;go_simp;try with_reducible rfl
  simp only [Act.put,List.setIfInBounds_toArray,List.set_cons_zero,List.set_cons_succ];refine ysN ?_;refine rd1 14 (by kernel_rfl) rfl (fun K9 hK9=>?_);go_simp;refine (refuses_any _ _ _).mono ?_;rintro e w5 ⟨rfl,rfl⟩;go_simp;refine hK9.out _ _ hHeld (fun hHeld=>?_);clear hK9 K9;refine tkm 1 [(15,2)] (by kernel_rfl) (fun _ _ _ _ _ h=>h) (by assumption) ?_;refine ysC (v:=?_) rfl rfl (fun w9 hS9=>?_) ?_;rotate_left
  ·try dsimp only at hS9
   go_split_ands;go_simp;try with_reducible rfl
  simp only [Act.put,List.setIfInBounds_toArray,List.set_cons_zero,List.set_cons_succ];refine ysN ?_;refine wpAnyH_done (by kernel_rfl) ?_ _;go_wp2_with fail;go_ret;exact HC.out _ _ HB3.out
 ·by_cases h2:b.next=4294967295
  ·have hv:ruleF b q need room 4=6:=by show (if b.c≤nT b.l∨b.next=4294967295 then 6 else 0)=6;rw [if_pos (Or.inr h2)]
   have d1:decide (b.c≤nT b.l)=false:=by simpa using h1
   have d2:decide ((b.c:Int)≤(nT b.l:Int))=false:=by simpa using h1
   have d3:(b.next:Int)=4294967295:=by omega
   rw [hv];clear hv;generalize nT b.l=ln at *;go_enter Tryz.func204,Tryz.ntmps204;go_wp2_with fail;go_region_held_law (fun w'=>w'.cell? ⟨w.heap.size,0,none⟩=some (.pointer (some ⟨p,0,none⟩))) (first | assumption | go_keep)
    (
     first
     | (
      go_at_call 63;refine (HL.out _ HN.out.2.2.drew).mono ?_
      rintro e w3 ⟨rfl,rfl⟩)
     | (
      go_at_call 60;refine (HS.out _ HN.out.2.2.drew).mono ?_
      rintro e w3 ⟨rfl,hb⟩;have HB3:=hid (HN.out.2.2.drew.trans (hb.mono (Nat.le_of_lt hAl)));have e0:=(hb.cell (p:=⟨w.heap.size,0,none⟩) hAl).trans c0;clear hb)
     | (
      go_at_call 61;refine (HX.out _ HB3.out).mono ?_
      rintro e w3 ⟨rfl,rfl⟩)
     | (
      go_at_call 220;refine (refuses_any _ _ _).mono ?_
      rintro e w5 ⟨rfl,rfl⟩))
   all_goals
    go_wp2_with fail;go_ret;exact HC.out _ _ HB3.out
  ·have hv:ruleF b q need room 4=0:=by show (if b.c≤nT b.l∨b.next=4294967295 then 6 else 0)=0;rw [if_neg (by omega)]
   have d1:decide (b.c≤nT b.l)=false:=by simpa using h1
   have d2:decide ((b.c:Int)≤(nT b.l:Int))=false:=by simpa using h1
   have d3:((b.next:Int) == 4294967295)=false:=by simp;omega
   have d4:decide ((b.next:Int)=4294967295)=false:=by simp;omega
   rw [hv];clear hv;generalize nT b.l=ln at *;go_enter Tryz.func204,Tryz.ntmps204;go_wp2_with fail;go_region_held_law (fun w'=>w'.cell? ⟨w.heap.size,0,none⟩=some (.pointer (some ⟨p,0,none⟩))) (first | assumption | go_keep)
    (
     first
     | (
      go_at_call 63;refine (HL.out _ HN.out.2.2.drew).mono ?_
      rintro e w3 ⟨rfl,rfl⟩)
     | (
      go_at_call 60;refine (HS.out _ HN.out.2.2.drew).mono ?_
      rintro e w3 ⟨rfl,hb⟩;have HB3:=hid (HN.out.2.2.drew.trans (hb.mono (Nat.le_of_lt hAl)));have e0:=(hb.cell (p:=⟨w.heap.size,0,none⟩) hAl).trans c0;clear hb)
     | (
      go_at_call 61;refine (HX.out _ HB3.out).mono ?_
      rintro e w3 ⟨rfl,rfl⟩)
     | (
      go_at_call 220;refine (refuses_any _ _ _).mono ?_
      rintro e w5 ⟨rfl,rfl⟩))
   all_goals
    go_wp2_with fail;go_ret;exact HC.out _ _ HB3.out
theorem rule5_any (p:Nat)(F:Nat→Prop)(K:Nat)(b:Bk)(q:Rq)(r:Rec)(room need:Nat)(w:World)(h:Bkk w p F K b)(hi:q.id<4294967296):Calls Tryz.prog 206 #[.agg (askC p q r room)] w (CRule w p F K b (ruleF b q need room 5)):=by
 obtain ⟨W,hW⟩:∃W,w.alloc (.cells (askC p q r room) 291)=W:=⟨_,rfl⟩;have N:=new1 w (.cells (askC p q r room) 291);rw [hW] at N;unfold askC at *;obtain ⟨c0,_,c1,_,c2,_,c3,_,c4,_,c5,_,c6,_,c7,_,c8,_,c9,_,c10,_,c11,_⟩:=cells12 N.1;have HN:=hid N;have hAl:w.heap.size<W.heap.size:=by omega
 have HG:=hid (kget p F K b q.id W (h.new N.2.2) hi);have hv:ruleF b q need room 5=(getA b q.id).2:=by
  show (if (get b q.id).isSome then 0 else 171)=_
  unfold getA;cases get b q.id<;>rfl
 rw [hv];obtain ⟨X,hX⟩:∃X,getA b q.id=X:=⟨_,rfl⟩;rw [hX] at HG ⊢;obtain ⟨⟨x0,x1,x2⟩,er⟩:=X;unfold boV at HG;dsimp only at HG ⊢;have HFL:=hid h.flt;clear N h hv hX;go_enter Tryz.func206,Tryz.ntmps206;go_wp2_with fail;refine HG.out.mono ?_;rintro e w2 ⟨rfl,hB,hk⟩;have N2:=new1 w2 (.cells #[.int .u32 x0,.int .i64 x1,.int .i64 x2] 160);have HE:Hid (CRule w p F K b er (.returned (.int .i64 er)) (w2.alloc (.cells #[.int .u32 x0,.int .i64 x1,.int .i64 x2] 160))):=hid ⟨rfl,hB.new N2.2.2,((Kp.of_new HN.out.2.2).trans hk).trans (Kp.of_new N2.2.2)⟩;clear hB hk N2;go_wp2_with fail;go_ret;exact HE.out
theorem rule6_any (p:Nat)(F:Nat→Prop)(K:Nat)(b:Bk)(q:Rq)(r:Rec)(room need:Nat)(w:World)(h:Bkk w p F K b)(hn:22+szR r.k=need):Calls Tryz.prog 205 #[.agg (askC p q r room)] w (CRule w p F K b (ruleF b q need room 6)):=by
 obtain ⟨W,hW⟩:∃W,w.alloc (.cells (askC p q r room) 291)=W:=⟨_,rfl⟩;have N:=new1 w (.cells (askC p q r room) 291);rw [hW] at N;unfold askC at *;obtain ⟨c0,_,c1,_,c2,_,c3,_,c4,_,c5,_,c6,_,c7,_,c8,_,c9,_,c10,_,c11,_⟩:=cells12 N.1;have HN:=hid N;have hAl:w.heap.size<W.heap.size:=by omega
 have hsz:szR r.k≤15:=by
  unfold szR;repeat' split
  all_goals omega
 have HZ:=hid (fun W'=>recsize_any r.k W');obtain ⟨s9,hs9⟩:∃s9,szR r.k=s9:=⟨_,rfl⟩;rw [hs9] at hn hsz HZ;have HF:=hid (fun W'=>fsize_any s9 W' (by omega));have HC:=hid (fun n W' (hb:Below w.heap.size w W')=>CRule.below (n:=n) h hb);clear N h hs9;have hv:ruleF b q need room 6=if room<22+s9 then 220 else 0:=by rw [hn];rfl
 by_cases h1:room<22+s9
 ·rw [if_pos h1] at hv;have d1:decide (room<22+s9)=true:=by simpa using h1
  have d2:decide ((room:Int)<22+(s9:Int))=true:=by rw [decide_eq_true_iff];omega
  rw [hv];clear hv;go_enter Tryz.func205,Tryz.ntmps205;go_wp2_with fail;go_region_held_law (fun w'=>w'.cell? ⟨w.heap.size,6,none⟩=some (.int .i64 r.k)∧w'.cell? ⟨w.heap.size,11,none⟩=some (.int .i64 room)) (first | assumption | go_keep)
   (
    first
    | (
     go_at_call 221;refine (HZ.out _).mono ?_
     rintro e w3 ⟨rfl,hb⟩;have HB3:=hid (HN.out.2.2.drew.trans (hb.mono (Nat.le_of_lt hAl)));have e6:=(hb.cell (p:=⟨w.heap.size,6,none⟩) hAl).trans c6;have e11:=(hb.cell (p:=⟨w.heap.size,11,none⟩) hAl).trans c11;clear hb)
    | (
     go_at_call 154;refine (HF.out _).mono ?_
     rintro e w3 ⟨rfl,rfl⟩)
    | (
     go_at_call 220;refine (refuses_any _ _ _).mono ?_
     rintro e w5 ⟨rfl,rfl⟩))
  all_goals
   go_wp2_with fail;go_ret;exact HC.out _ _ HB3.out
 ·rw [if_neg h1] at hv;have d1:decide (room<22+s9)=false:=by simpa using h1
  have d2:decide ((room:Int)<22+(s9:Int))=false:=by rw [decide_eq_false_iff_not];omega
  rw [hv];clear hv;go_enter Tryz.func205,Tryz.ntmps205;go_wp2_with fail;go_region_held_law (fun w'=>w'.cell? ⟨w.heap.size,6,none⟩=some (.int .i64 r.k)∧w'.cell? ⟨w.heap.size,11,none⟩=some (.int .i64 room)) (first | assumption | go_keep)
   (
    first
    | (
     go_at_call 221;refine (HZ.out _).mono ?_
     rintro e w3 ⟨rfl,hb⟩;have HB3:=hid (HN.out.2.2.drew.trans (hb.mono (Nat.le_of_lt hAl)));have e6:=(hb.cell (p:=⟨w.heap.size,6,none⟩) hAl).trans c6;have e11:=(hb.cell (p:=⟨w.heap.size,11,none⟩) hAl).trans c11;clear hb)
    | (
     go_at_call 154;refine (HF.out _).mono ?_
     rintro e w3 ⟨rfl,rfl⟩)
    | (
     go_at_call 220;refine (refuses_any _ _ _).mono ?_
     rintro e w5 ⟨rfl,rfl⟩))
  all_goals
   go_wp2_with fail;go_ret;exact HC.out _ _ HB3.out
theorem results_row1 {P:Program}{fn:Func}{p:Tmp}{ty:TypeId}(h:fn.results=#[.cell p ty])(tmps:Array Value)(w:World)(g:Nat)(t:TypeId)(cs:Array Value)(fr:Nat×Nat)(d:TypeDesc)(hp:tmps.getD p undef = .pointer (some ⟨g,0,none⟩))(hg:w.heap[g]?=some (.cells cs t fr))(hu:P.underlying ty=some d)(hd:(match d with | .struct _ | .array _ _=>true | _=>false)=true)(hi:(P.info? ty).map (·.size)=some cs.size):
 (results fn tmps).run P w = .ok (.agg cs) w:=by
 have hp':tmps[p]?.getD undef = .pointer (some ⟨g,0,none⟩):=by simpa using hp
 simp [results,h,hp',asAddr,run_loadVar_row w g t ty cs fr d hg hu hd hi]
def rplV (q:Rq)(r:Rec):Array Value:=#[.int .u32 q.tag,.int .i64 q.k,.int .i64 0,.int .u32 (if q.k=1 then r.id else 0),.int .i64 (if q.k=4 then r.s else 0),.int .i64 (if q.k=1 then r.u else if q.k=7 then r.q else 0),.int .i64 0]
def zRp:Array Value:=#[.int .u32 0,.int .i64 0,.int .i64 0,.int .u32 0,.int .i64 0,.int .i64 0,.int .i64 0]
theorem new4 (w:World)(a b c d:Obj):(((((w.alloc a).alloc b).alloc c).alloc d).heap[w.heap.size]?=some a)∧((((w.alloc a).alloc b).alloc c).alloc d).heap[w.heap.size+1]?=some b∧((((w.alloc a).alloc b).alloc c).alloc d).heap[w.heap.size+1+1]?=some c∧((((w.alloc a).alloc b).alloc c).alloc d).heap[w.heap.size+1+1+1]?=some d∧((((w.alloc a).alloc b).alloc c).alloc d).heap.size = w.heap.size+4∧Below w.heap.size w ((((w.alloc a).alloc b).alloc c).alloc d):=by
 have n1:=new1 w a;have n2:=new1 (w.alloc a) b;have n3:=new1 ((w.alloc a).alloc b) c;have n4:=new1 (((w.alloc a).alloc b).alloc c) d;rw [n1.2.1] at n2;rw [n2.2.1] at n3;rw [n3.2.1] at n4;exact ⟨(n4.2.2.block _ (by omega)).trans ((n3.2.2.block _ (by omega)).trans ((n2.2.2.block _ (by omega)).trans n1.1)),(n4.2.2.block _ (by omega)).trans ((n3.2.2.block _ (by omega)).trans n2.1),(n4.2.2.block _ (by omega)).trans n3.1,n4.1,n4.2.1,((n1.2.2.trans (n2.2.2.mono (by omega))).trans (n3.2.2.mono (by omega))).trans (n4.2.2.mono (by omega))⟩
theorem creply_any (q:Rq)(r:Rec)(w:World):Calls Tryz.prog 175 #[.agg (rqC q.k q.tag q.id q.seat q.ttl),.agg r.cells] w fun e w'=>e = .returned (.agg (rplV q r))∧Below w.heap.size w w':=by
 obtain ⟨k,tag,id,seat,ttl⟩:=q;obtain ⟨rk,ri,rs,ru,rq⟩:=r;unfold rqC Rec.cells rplV;dsimp only;by_cases h1:k=1
 ·subst h1;rw [if_pos rfl,if_neg (by decide),if_pos rfl];obtain ⟨W,hW⟩:∃W,(((w.alloc (.cells #[.int .i64 1,.int .u32 tag,.int .u32 id,.int .i64 seat,.int .i64 ttl] 48)).alloc (.cells #[.int .i64 rk,.int .u32 ri,.int .i64 rs,.int .i64 ru,.int .i64 rq] 223)).alloc (.cells #[.int .u32 0,.int .i64 0,.int .i64 0,.int .u32 0,.int .i64 0,.int .i64 0,.int .i64 0] 50)).alloc (.cells #[.int .u32 tag,.int .i64 1,.int .i64 0,.int .u32 0,.int .i64 0,.int .i64 0,.int .i64 0] 50)=W:=⟨_,rfl⟩;have HN:=hid (new4 w (.cells #[.int .i64 1,.int .u32 tag,.int .u32 id,.int .i64 seat,.int .i64 ttl] 48) (.cells #[.int .i64 rk,.int .u32 ri,.int .i64 rs,.int .i64 ru,.int .i64 rq] 223) (.cells #[.int .u32 0,.int .i64 0,.int .i64 0,.int .u32 0,.int .i64 0,.int .i64 0,.int .i64 0] 50) (.cells #[.int .u32 tag,.int .i64 1,.int .i64 0,.int .u32 0,.int .i64 0,.int .i64 0,.int .i64 0] 50));rw [hW] at HN;have HW:=hid hW;obtain ⟨q0,_,q1,_,q2,_,q3,_,q4,_⟩:=cells5 HN.out.1;obtain ⟨r0,_,r1,_,r2,_,r3,_,r4,_⟩:=cells5 HN.out.2.1;obtain ⟨z0,y0,z1,y1,z2,y2,z3,y3,z4,y4,z5,y5,z6,y6⟩:=cells7 HN.out.2.2.1;obtain ⟨o0,p0,o1,p1,o2,p2,o3,p3,o4,p4,o5,p5,o6,p6⟩:=cells7 HN.out.2.2.2.1;clear hW;go_enter Tryz.func175,Tryz.ntmps175;go_wp2_with fail;rw [HW.out];go_region
  have hk9:Kp (fun x=>x=w.heap.size+1+1+1) W (((W.setCell ⟨w.heap.size+1+1+1,3,none⟩ (.int .u32 ri)).setCell ⟨w.heap.size+1+1+1,5,none⟩ (.int .i64 ru))).drew :=(((Kp.refl (fun x=>x=w.heap.size+1+1+1) W).setCell (p:=⟨w.heap.size+1+1+1,3,none⟩) rfl (.int .u32 ri)).setCell (p:=⟨w.heap.size+1+1+1,5,none⟩) rfl (.int .i64 ru)).drew;have hz:=hk9.blk HN.out.2.2.1 (by omega);have hb9:Below w.heap.size w (((W.setCell ⟨w.heap.size+1+1+1,3,none⟩ (.int .u32 ri)).setCell ⟨w.heap.size+1+1+1,5,none⟩ (.int .i64 ru))).drew :=HN.out.2.2.2.2.2.trans (hk9.below (by have:=HN.out.2.2.2.2.1;omega) (fun i e=>by have e':i=w.heap.size+1+1+1:=e;omega));have ho9:((((W.setCell ⟨w.heap.size+1+1+1,3,none⟩ (.int .u32 ri)).setCell ⟨w.heap.size+1+1+1,5,none⟩ (.int .i64 ru))).drew).heap[w.heap.size+1+1+1]?=some (Obj.cells #[.int .u32 tag,.int .i64 1,.int .i64 0,.int .u32 ri,.int .i64 0,.int .i64 ru,.int .i64 0] 50 (0,0)):=(heap_setCell_same (W.setCell ⟨w.heap.size+1+1+1,3,none⟩ (.int .u32 ri)) (w.heap.size+1+1+1) 5 _ 50 (.int .i64 ru) (heap_setCell_same W (w.heap.size+1+1+1) 3 _ 50 (.int .u32 ri) HN.out.2.2.2.1));have HZ:=hid hz;have HB:=hid hb9;have HO:=hid ho9;clear hk9 hz hb9 ho9;generalize (((W.setCell ⟨w.heap.size+1+1+1,3,none⟩ (.int .u32 ri)).setCell ⟨w.heap.size+1+1+1,5,none⟩ (.int .i64 ru))).drew = W5 at HZ HB HO ⊢;clear q0 q1 q2 q3 q4 r0 r1 r2 r3 r4 z0 z1 z2 z3 z4 z5 z6 y0 y1 y2 y3 y4 y5 y6 o0 o1 o2 o3 o4 o5 o6 p0 p1 p2 p3 p4 p5 p6;obtain ⟨z0,y0,z1,y1,z2,y2,z3,y3,z4,y4,z5,y5,z6,y6⟩:=cells7 HZ.out;obtain ⟨o0,p0,o1,p1,o2,p2,o3,p3,o4,p4,o5,p5,o6,p6⟩:=cells7 HO.out;go_wp2_with fail;refine bodyPost_ret (results_row1 rfl _ _ _ _ _ _ _ rfl (rset7 HZ.out) Tryz.underlying50 rfl (by kernel_rfl)) rfl ⟨rfl,rset7_below HB.out (by omega) _ _ _ _ _ _ _⟩
 by_cases h4:k=4
 ·subst h4;rw [if_neg (by decide),if_pos rfl,if_neg (by decide),if_neg (by decide)];go_enter Tryz.func175,Tryz.ntmps175;go_wp2_with fail;refine bodyPost_ret (results_row1 rfl _ _ _ _ _ _ _ rfl (new4 w _ _ _ _).2.2.1 Tryz.underlying50 rfl (by kernel_rfl)) rfl ⟨rfl,(new4 w _ _ _ _).2.2.2.2.2⟩
 by_cases h7:k=7
 ·subst h7;rw [if_neg (by decide),if_neg (by decide),if_neg (by decide),if_pos rfl];go_enter Tryz.func175,Tryz.ntmps175;go_wp2_with fail;refine bodyPost_ret (results_row1 rfl _ _ _ _ _ _ _ rfl (new4 w _ _ _ _).2.2.1 Tryz.underlying50 rfl (by kernel_rfl)) rfl ⟨rfl,(new4 w _ _ _ _).2.2.2.2.2⟩
 ·have h1I:¬(k:Int)=1:=by omega
  have h4I:¬(k:Int)=4:=by omega
  have h7I:¬(k:Int)=7:=by omega
  rw [if_neg h1,if_neg h4,if_neg h1,if_neg h7];go_enter Tryz.func175,Tryz.ntmps175;go_wp2_with fail;refine bodyPost_ret (results_row1 rfl _ _ _ _ _ _ _ rfl (new4 w _ _ _ _).2.2.1 Tryz.underlying50 rfl (by kernel_rfl)) rfl ⟨rfl,(new4 w _ _ _ _).2.2.2.2.2⟩
def fnJ (j:Nat):Nat:=if j=5 then 206 else if j=6 then 205 else 200+j
def ruV (j:Nat):Value:= .func (.func (fnJ j)) #[] #[]
def atV (b:Bk)(q:Rq):Int:=IntKind.i64.wrap ((b.clock:Int)+(q.ttl:Int))
def recV (b:Bk)(q:Rq):Rec:=if q.k=1 then ⟨1,b.next,q.seat,atV b q,0⟩ else if q.k=4 then ⟨4,q.id,q.seat,0,0⟩ else if q.k=7 then ⟨5,0,0,0,atV b q⟩ else ⟨q.k,q.id,0,0,0⟩
def CChg (w:World)(b:Bk)(q:Rq)(e:Ending)(w':World):Prop:= ∃g,e = .returned (.tuple #[.agg (recV b q).cells,.slice (some ⟨g,0,none⟩) (rulesF q.k).length (rulesF q.k).length,.bool true])∧w'.heap[g]?=some (.cells ((rulesF q.k).map ruV).toArray 289 (0,0))∧w.heap.size≤g∧Below w.heap.size w w'
theorem change_2 (p:Nat)(F:Nat→Prop)(K:Nat)(b:Bk)(tag id seat ttl:Nat)(w:World)(h:Bkk w p F K b):Calls Tryz.prog 174 #[.pointer (some ⟨p,0,none⟩),.agg (rqC 2 tag id seat ttl)] w (CChg w b ⟨2,tag,id,seat,ttl⟩):=by
 unfold rqC;obtain ⟨W,hW⟩:∃W,(w.alloc (.cells #[.int .i64 2,.int .u32 tag,.int .u32 id,.int .i64 seat,.int .i64 ttl] 48)).alloc (.cells #[.int .i64 0,.int .u32 0,.int .i64 0,.int .i64 0,.int .i64 0] 223)=W:=⟨_,rfl⟩;have N:=new2 w (.cells #[.int .i64 2,.int .u32 tag,.int .u32 id,.int .i64 seat,.int .i64 ttl] 48) (.cells #[.int .i64 0,.int .u32 0,.int .i64 0,.int .i64 0,.int .i64 0] 223);rw [hW] at N;have HN:=hid N;have HW:=hid hW;have HC:=hid (fun W' (hb:Below w.heap.size w W')=>kclock p F K b W' (h.new hb));have HX:=hid (fun W' (hb:Below w.heap.size w W')=>knext p F K b W' (h.new hb));obtain ⟨q0,_,q1,_,q2,_,q3,_,q4,_⟩:=cells5 N.1;obtain ⟨z0,y0,z1,y1,z2,y2,z3,y3,z4,y4⟩:=cells5 N.2.1;obtain ⟨av,hav⟩:∃av,IntKind.i64.wrap ((b.clock:Int)+(ttl:Int))=av:=⟨_,rfl⟩;have HAV:=hid hav;clear h hW N;go_enter Tryz.func174,Tryz.ntmps174;go_wp2_with fail;rw [HW.out];go_quiet ((go_at_call 62;exact Calls.quiet_of_same ((HC.out _ (below_drewN HN.out.2.2.2 _)).mono (fun _ _ h=>⟨h.1,h.2.symm⟩))))
 clear hav;generalize hWq:W.drewN nq=W1 at *;have hb1:Below w.heap.size w W1:=by rw [←hWq];exact below_drewN HN.out.2.2.2 _
 have e1:=(show W1.heap[w.heap.size]?=W.heap[w.heap.size]? from by rw [←hWq];rfl).trans HN.out.1;have e2:=(show W1.heap[w.heap.size+1]?=W.heap[w.heap.size+1]? from by rw [←hWq];rfl).trans HN.out.2.1;have hs1:W1.heap.size=w.heap.size+2:=by rw [←hWq];exact HN.out.2.2.1
 clear q0 q1 q2 q3 q4 z0 y0 z1 y1 z2 y2 z3 y3 z4 y4 hWq;obtain ⟨q0,_,q1,_,q2,_,q3,_,q4,_⟩:=cells5 e1;obtain ⟨z0,y0,z1,y1,z2,y2,z3,y3,z4,y4⟩:=cells5 e2;have N3:=new1 W1 (.cells #[.func (.func 206) #[] #[],.func (.func 205) #[] #[]] 289);have e3:=(N3.2.2.block (w.heap.size+1) (by omega)).trans e2;have e1':=(N3.2.2.block w.heap.size (by omega)).trans e1;have hb3:=hb1.trans (N3.2.2.mono hb1.size);have HB3:=hid hb3;have E3:=hid e3;have HN3:=hid N3;have HS1:=hid hs1;clear hb1 e1 e2 e3 hb3 N3 hs1;obtain ⟨q0',_,q1',_,q2',_,q3',_,q4',_⟩:=cells5 e1';obtain ⟨z0',y0',z1',y1',z2',y2',z3',y3',z4',y4'⟩:=cells5 E3.out;clear e1';go_wp2_with fail;refine bodyPost_ret (results_row3 rfl _ _ _ _ _ _ _ rfl (rset5 E3.out) Tryz.underlying223 rfl (by kernel_rfl)) rfl ?_;refine ⟨W1.heap.size,?_,?_,by have:=HS1.out;omega,rset5_below HB3.out (by omega) _ _ _ _ _⟩
 ·show _=_;rfl
 ·exact (rset5_kp (F:=fun x=>x=w.heap.size+1) (Kp.refl _ _) rfl _ _ _ _ _).blk HN3.out.1 (by have:=HS1.out;omega)
theorem change_3 (p:Nat)(F:Nat→Prop)(K:Nat)(b:Bk)(tag id seat ttl:Nat)(w:World)(h:Bkk w p F K b):Calls Tryz.prog 174 #[.pointer (some ⟨p,0,none⟩),.agg (rqC 3 tag id seat ttl)] w (CChg w b ⟨3,tag,id,seat,ttl⟩):=by
 unfold rqC;obtain ⟨W,hW⟩:∃W,(w.alloc (.cells #[.int .i64 3,.int .u32 tag,.int .u32 id,.int .i64 seat,.int .i64 ttl] 48)).alloc (.cells #[.int .i64 0,.int .u32 0,.int .i64 0,.int .i64 0,.int .i64 0] 223)=W:=⟨_,rfl⟩;have N:=new2 w (.cells #[.int .i64 3,.int .u32 tag,.int .u32 id,.int .i64 seat,.int .i64 ttl] 48) (.cells #[.int .i64 0,.int .u32 0,.int .i64 0,.int .i64 0,.int .i64 0] 223);rw [hW] at N;have HN:=hid N;have HW:=hid hW;have HC:=hid (fun W' (hb:Below w.heap.size w W')=>kclock p F K b W' (h.new hb));have HX:=hid (fun W' (hb:Below w.heap.size w W')=>knext p F K b W' (h.new hb));obtain ⟨q0,_,q1,_,q2,_,q3,_,q4,_⟩:=cells5 N.1;obtain ⟨z0,y0,z1,y1,z2,y2,z3,y3,z4,y4⟩:=cells5 N.2.1;obtain ⟨av,hav⟩:∃av,IntKind.i64.wrap ((b.clock:Int)+(ttl:Int))=av:=⟨_,rfl⟩;have HAV:=hid hav;clear h hW N;go_enter Tryz.func174,Tryz.ntmps174;go_wp2_with fail;rw [HW.out];go_quiet ((go_at_call 62;exact Calls.quiet_of_same ((HC.out _ (below_drewN HN.out.2.2.2 _)).mono (fun _ _ h=>⟨h.1,h.2.symm⟩))))
 clear hav;generalize hWq:W.drewN nq=W1 at *;have hb1:Below w.heap.size w W1:=by rw [←hWq];exact below_drewN HN.out.2.2.2 _
 have e1:=(show W1.heap[w.heap.size]?=W.heap[w.heap.size]? from by rw [←hWq];rfl).trans HN.out.1;have e2:=(show W1.heap[w.heap.size+1]?=W.heap[w.heap.size+1]? from by rw [←hWq];rfl).trans HN.out.2.1;have hs1:W1.heap.size=w.heap.size+2:=by rw [←hWq];exact HN.out.2.2.1
 clear q0 q1 q2 q3 q4 z0 y0 z1 y1 z2 y2 z3 y3 z4 y4 hWq;obtain ⟨q0,_,q1,_,q2,_,q3,_,q4,_⟩:=cells5 e1;obtain ⟨z0,y0,z1,y1,z2,y2,z3,y3,z4,y4⟩:=cells5 e2;have N3:=new1 W1 (.cells #[.func (.func 206) #[] #[],.func (.func 205) #[] #[]] 289);have e3:=(N3.2.2.block (w.heap.size+1) (by omega)).trans e2;have e1':=(N3.2.2.block w.heap.size (by omega)).trans e1;have hb3:=hb1.trans (N3.2.2.mono hb1.size);have HB3:=hid hb3;have E3:=hid e3;have HN3:=hid N3;have HS1:=hid hs1;clear hb1 e1 e2 e3 hb3 N3 hs1;obtain ⟨q0',_,q1',_,q2',_,q3',_,q4',_⟩:=cells5 e1';obtain ⟨z0',y0',z1',y1',z2',y2',z3',y3',z4',y4'⟩:=cells5 E3.out;clear e1';go_wp2_with fail;refine bodyPost_ret (results_row3 rfl _ _ _ _ _ _ _ rfl (rset5 E3.out) Tryz.underlying223 rfl (by kernel_rfl)) rfl ?_;refine ⟨W1.heap.size,?_,?_,by have:=HS1.out;omega,rset5_below HB3.out (by omega) _ _ _ _ _⟩
 ·show _=_;rfl
 ·exact (rset5_kp (F:=fun x=>x=w.heap.size+1) (Kp.refl _ _) rfl _ _ _ _ _).blk HN3.out.1 (by have:=HS1.out;omega)
theorem change_4 (p:Nat)(F:Nat→Prop)(K:Nat)(b:Bk)(tag id seat ttl:Nat)(w:World)(h:Bkk w p F K b):Calls Tryz.prog 174 #[.pointer (some ⟨p,0,none⟩),.agg (rqC 4 tag id seat ttl)] w (CChg w b ⟨4,tag,id,seat,ttl⟩):=by
 unfold rqC;obtain ⟨W,hW⟩:∃W,(w.alloc (.cells #[.int .i64 4,.int .u32 tag,.int .u32 id,.int .i64 seat,.int .i64 ttl] 48)).alloc (.cells #[.int .i64 0,.int .u32 0,.int .i64 0,.int .i64 0,.int .i64 0] 223)=W:=⟨_,rfl⟩;have N:=new2 w (.cells #[.int .i64 4,.int .u32 tag,.int .u32 id,.int .i64 seat,.int .i64 ttl] 48) (.cells #[.int .i64 0,.int .u32 0,.int .i64 0,.int .i64 0,.int .i64 0] 223);rw [hW] at N;have HN:=hid N;have HW:=hid hW;have HC:=hid (fun W' (hb:Below w.heap.size w W')=>kclock p F K b W' (h.new hb));have HX:=hid (fun W' (hb:Below w.heap.size w W')=>knext p F K b W' (h.new hb));obtain ⟨q0,_,q1,_,q2,_,q3,_,q4,_⟩:=cells5 N.1;obtain ⟨z0,y0,z1,y1,z2,y2,z3,y3,z4,y4⟩:=cells5 N.2.1;obtain ⟨av,hav⟩:∃av,IntKind.i64.wrap ((b.clock:Int)+(ttl:Int))=av:=⟨_,rfl⟩;have HAV:=hid hav;clear h hW N;go_enter Tryz.func174,Tryz.ntmps174;go_wp2_with fail;rw [HW.out];go_quiet ((go_at_call 62;exact Calls.quiet_of_same ((HC.out _ (below_drewN HN.out.2.2.2 _)).mono (fun _ _ h=>⟨h.1,h.2.symm⟩))))
 clear hav;generalize hWq:W.drewN nq=W1 at *;have hb1:Below w.heap.size w W1:=by rw [←hWq];exact below_drewN HN.out.2.2.2 _
 have e1:=(show W1.heap[w.heap.size]?=W.heap[w.heap.size]? from by rw [←hWq];rfl).trans HN.out.1;have e2:=(show W1.heap[w.heap.size+1]?=W.heap[w.heap.size+1]? from by rw [←hWq];rfl).trans HN.out.2.1;have hs1:W1.heap.size=w.heap.size+2:=by rw [←hWq];exact HN.out.2.2.1
 clear q0 q1 q2 q3 q4 z0 y0 z1 y1 z2 y2 z3 y3 z4 y4 hWq;obtain ⟨q0,_,q1,_,q2,_,q3,_,q4,_⟩:=cells5 e1;obtain ⟨z0,y0,z1,y1,z2,y2,z3,y3,z4,y4⟩:=cells5 e2;have N3:=new1 W1 (.cells #[.func (.func 206) #[] #[],.func (.func 200) #[] #[],.func (.func 203) #[] #[],.func (.func 205) #[] #[]] 289);have e3:=(N3.2.2.block (w.heap.size+1) (by omega)).trans e2;have e1':=(N3.2.2.block w.heap.size (by omega)).trans e1;have hb3:=hb1.trans (N3.2.2.mono hb1.size);have HB3:=hid hb3;have E3:=hid e3;have HN3:=hid N3;have HS1:=hid hs1;clear hb1 e1 e2 e3 hb3 N3 hs1;obtain ⟨q0',_,q1',_,q2',_,q3',_,q4',_⟩:=cells5 e1';obtain ⟨z0',y0',z1',y1',z2',y2',z3',y3',z4',y4'⟩:=cells5 E3.out;clear e1';go_wp2_with fail;refine bodyPost_ret (results_row3 rfl _ _ _ _ _ _ _ rfl (rset5 E3.out) Tryz.underlying223 rfl (by kernel_rfl)) rfl ?_;refine ⟨W1.heap.size,?_,?_,by have:=HS1.out;omega,rset5_below HB3.out (by omega) _ _ _ _ _⟩
 ·show _=_;rfl
 ·exact (rset5_kp (F:=fun x=>x=w.heap.size+1) (Kp.refl _ _) rfl _ _ _ _ _).blk HN3.out.1 (by have:=HS1.out;omega)
theorem change_7 (p:Nat)(F:Nat→Prop)(K:Nat)(b:Bk)(tag id seat ttl:Nat)(w:World)(h:Bkk w p F K b):Calls Tryz.prog 174 #[.pointer (some ⟨p,0,none⟩),.agg (rqC 7 tag id seat ttl)] w (CChg w b ⟨7,tag,id,seat,ttl⟩):=by
 unfold rqC;obtain ⟨W,hW⟩:∃W,(w.alloc (.cells #[.int .i64 7,.int .u32 tag,.int .u32 id,.int .i64 seat,.int .i64 ttl] 48)).alloc (.cells #[.int .i64 0,.int .u32 0,.int .i64 0,.int .i64 0,.int .i64 0] 223)=W:=⟨_,rfl⟩;have N:=new2 w (.cells #[.int .i64 7,.int .u32 tag,.int .u32 id,.int .i64 seat,.int .i64 ttl] 48) (.cells #[.int .i64 0,.int .u32 0,.int .i64 0,.int .i64 0,.int .i64 0] 223);rw [hW] at N;have HN:=hid N;have HW:=hid hW;have HC:=hid (fun W' (hb:Below w.heap.size w W')=>kclock p F K b W' (h.new hb));have HX:=hid (fun W' (hb:Below w.heap.size w W')=>knext p F K b W' (h.new hb));obtain ⟨q0,_,q1,_,q2,_,q3,_,q4,_⟩:=cells5 N.1;obtain ⟨z0,y0,z1,y1,z2,y2,z3,y3,z4,y4⟩:=cells5 N.2.1;obtain ⟨av,hav⟩:∃av,IntKind.i64.wrap ((b.clock:Int)+(ttl:Int))=av:=⟨_,rfl⟩;have HAV:=hid hav;clear h hW N;go_enter Tryz.func174,Tryz.ntmps174;go_wp2_with fail;rw [HW.out];go_quiet ((go_at_call 62;exact Calls.quiet_of_same ((HC.out _ (below_drewN HN.out.2.2.2 _)).mono (fun _ _ h=>⟨h.1,h.2.symm⟩))))
 clear hav;generalize hWq:W.drewN nq=W1 at *;have hb1:Below w.heap.size w W1:=by rw [←hWq];exact below_drewN HN.out.2.2.2 _
 have e1:=(show W1.heap[w.heap.size]?=W.heap[w.heap.size]? from by rw [←hWq];rfl).trans HN.out.1;have e2:=(show W1.heap[w.heap.size+1]?=W.heap[w.heap.size+1]? from by rw [←hWq];rfl).trans HN.out.2.1;have hs1:W1.heap.size=w.heap.size+2:=by rw [←hWq];exact HN.out.2.2.1
 clear q0 q1 q2 q3 q4 z0 y0 z1 y1 z2 y2 z3 y3 z4 y4 hWq;obtain ⟨q0,_,q1,_,q2,_,q3,_,q4,_⟩:=cells5 e1;obtain ⟨z0,y0,z1,y1,z2,y2,z3,y3,z4,y4⟩:=cells5 e2;have N3:=new1 W1 (.cells #[.func (.func 201) #[] #[],.func (.func 202) #[] #[],.func (.func 205) #[] #[]] 289);have e3:=(N3.2.2.block (w.heap.size+1) (by omega)).trans e2;have e1':=(N3.2.2.block w.heap.size (by omega)).trans e1;have hb3:=hb1.trans (N3.2.2.mono hb1.size);have HB3:=hid hb3;have E3:=hid e3;have HN3:=hid N3;have HS1:=hid hs1;clear hb1 e1 e2 e3 hb3 N3 hs1;obtain ⟨q0',_,q1',_,q2',_,q3',_,q4',_⟩:=cells5 e1';obtain ⟨z0',y0',z1',y1',z2',y2',z3',y3',z4',y4'⟩:=cells5 E3.out;clear e1';go_wp2_with fail;refine bodyPost_ret (results_row3 rfl _ _ _ _ _ _ _ rfl (rset5 E3.out) Tryz.underlying223 rfl (by kernel_rfl)) rfl ?_;refine ⟨W1.heap.size,?_,?_,by have:=HS1.out;omega,rset5_below HB3.out (by omega) _ _ _ _ _⟩
 ·rw [←HAV.out];rfl
 ·exact (rset5_kp (F:=fun x=>x=w.heap.size+1) (Kp.refl _ _) rfl _ _ _ _ _).blk HN3.out.1 (by have:=HS1.out;omega)
theorem heap_drew {w:World}{k:Nat}{o:Option Obj}(h:w.heap[k]?=o):w.drew.heap[k]?=o:=h
theorem change_1 (p:Nat)(F:Nat→Prop)(K:Nat)(b:Bk)(tag id seat ttl:Nat)(w:World)(h:Bkk w p F K b):Calls Tryz.prog 174 #[.pointer (some ⟨p,0,none⟩),.agg (rqC 1 tag id seat ttl)] w (CChg w b ⟨1,tag,id,seat,ttl⟩):=by
 unfold rqC;obtain ⟨W,hW⟩:∃W,(w.alloc (.cells #[.int .i64 1,.int .u32 tag,.int .u32 id,.int .i64 seat,.int .i64 ttl] 48)).alloc (.cells #[.int .i64 0,.int .u32 0,.int .i64 0,.int .i64 0,.int .i64 0] 223)=W:=⟨_,rfl⟩;have N:=new2 w (.cells #[.int .i64 1,.int .u32 tag,.int .u32 id,.int .i64 seat,.int .i64 ttl] 48) (.cells #[.int .i64 0,.int .u32 0,.int .i64 0,.int .i64 0,.int .i64 0] 223);rw [hW] at N;have HN:=hid N;have HW:=hid hW;have HC:=hid (fun W' (hb:Below w.heap.size w W')=>kclock p F K b W' (h.new hb));have HX:=hid (fun W' (hb:Below w.heap.size w W')=>knext p F K b W' (h.new hb));obtain ⟨q0,_,q1,_,q2,_,q3,_,q4,_⟩:=cells5 N.1;obtain ⟨z0,y0,z1,y1,z2,y2,z3,y3,z4,y4⟩:=cells5 N.2.1;obtain ⟨av,hav⟩:∃av,IntKind.i64.wrap ((b.clock:Int)+(ttl:Int))=av:=⟨_,rfl⟩;have HAV:=hid hav;clear h hW N;go_enter Tryz.func174,Tryz.ntmps174;go_wp2_with fail;rw [HW.out];go_quiet ((go_at_call 62;exact Calls.quiet_of_same ((HC.out _ (below_drewN HN.out.2.2.2 _)).mono (fun _ _ h=>⟨h.1,h.2.symm⟩))))
 clear hav;generalize hWq:W.drewN nq=W1 at *;have hb1:Below w.heap.size w W1:=by rw [←hWq];exact below_drewN HN.out.2.2.2 _
 have e1:=(show W1.heap[w.heap.size]?=W.heap[w.heap.size]? from by rw [←hWq];rfl).trans HN.out.1;have e2:=(show W1.heap[w.heap.size+1]?=W.heap[w.heap.size+1]? from by rw [←hWq];rfl).trans HN.out.2.1;have hs1:W1.heap.size=w.heap.size+2:=by rw [←hWq];exact HN.out.2.2.1
 clear q0 q1 q2 q3 q4 z0 y0 z1 y1 z2 y2 z3 y3 z4 y4 hWq;obtain ⟨q0,_,q1,_,q2,_,q3,_,q4,_⟩:=cells5 e1;obtain ⟨z0,y0,z1,y1,z2,y2,z3,y3,z4,y4⟩:=cells5 e2;have N3:=new1 W1 (.cells #[.func (.func 200) #[] #[],.func (.func 201) #[] #[],.func (.func 202) #[] #[],.func (.func 203) #[] #[],.func (.func 204) #[] #[],.func (.func 205) #[] #[]] 289);have e3:=(N3.2.2.block (w.heap.size+1) (by omega)).trans e2;have e1':=(N3.2.2.block w.heap.size (by omega)).trans e1;have hb3:=hb1.trans (N3.2.2.mono hb1.size);have N4:=new1 (((((W1.setCell ⟨w.heap.size+1,0,none⟩ (.int .i64 1)).setCell ⟨w.heap.size+1,1,none⟩ (.int .u32 b.next)).setCell ⟨w.heap.size+1,2,none⟩ (.int .i64 seat)).setCell ⟨w.heap.size+1,3,none⟩ (.int .i64 av)).setCell ⟨w.heap.size+1,4,none⟩ (.int .i64 0)) (.cells #[.func (.func 200) #[] #[],.func (.func 201) #[] #[],.func (.func 202) #[] #[],.func (.func 203) #[] #[],.func (.func 204) #[] #[],.func (.func 205) #[] #[]] 289);have hsz4:((((((W1.setCell ⟨w.heap.size+1,0,none⟩ (.int .i64 1)).setCell ⟨w.heap.size+1,1,none⟩ (.int .u32 b.next)).setCell ⟨w.heap.size+1,2,none⟩ (.int .i64 seat)).setCell ⟨w.heap.size+1,3,none⟩ (.int .i64 av)).setCell ⟨w.heap.size+1,4,none⟩ (.int .i64 0))).heap.size = W1.heap.size:=by simp only [World.size_setCell]
 rw [hsz4] at N4;have e4:=(N4.2.2.block (w.heap.size+1) (by omega)).trans (rset5 (x0:= .int .i64 1) (x1:= .int .u32 b.next) (x2:= .int .i64 seat) (x3:= .int .i64 av) (x4:= .int .i64 0) e2);have hb4:=(rset5_below hb1 (by omega:w.heap.size≤w.heap.size+1) (.int .i64 1) (.int .u32 b.next) (.int .i64 seat) (.int .i64 av) (.int .i64 0)).trans (N4.2.2.mono hb1.size);have e5:=rset5 (x0:= .int .i64 1) (x1:= .int .u32 b.next) (x2:= .int .i64 seat) (x3:= .int .i64 av) (x4:= .int .i64 0) e3;have s5:=(rset5_kp (F:=fun x=>x=w.heap.size+1) (Kp.refl _ (W1.alloc (.cells #[.func (.func 200) #[] #[],.func (.func 201) #[] #[],.func (.func 202) #[] #[],.func (.func 203) #[] #[],.func (.func 204) #[] #[],.func (.func 205) #[] #[]] 289))) rfl (.int .i64 1) (.int .u32 b.next) (.int .i64 seat) (.int .i64 av) (.int .i64 0)).blk N3.1 (by omega);have b5:=rset5_below hb3 (by omega:w.heap.size≤w.heap.size+1) (.int .i64 1) (.int .u32 b.next) (.int .i64 seat) (.int .i64 av) (.int .i64 0);have E5:=hid (heap_drew e5);have S5:=hid (heap_drew s5);have B5:=hid b5.drew;have E6:=hid (heap_drew e4);have S6:=hid (heap_drew N4.1);have B6:=hid hb4.drew;clear e5 s5 b5;have HB1:=hid hb1;have HB3:=hid hb3;have HB4:=hid hb4;have E3:=hid e3;have E4:=hid e4;have HN3:=hid N3;have HN4:=hid N4;have HS1:=hid hs1;have q39:=q3;clear hb1 e1 e2 e3 hb3 N3 hs1 N4 e4 hb4;obtain ⟨q0',_,q1',_,q2',_,q3',_,q4',_⟩:=cells5 e1';obtain ⟨z0',y0',z1',y1',z2',y2',z3',y3',z4',y4'⟩:=cells5 E3.out;clear e1';go_wp2_with fail;refine wp_region_held_drew (S:=fun w'=>w'.cell? ⟨w.heap.size,3,none⟩=some (.int .i64 seat)∧True) (by kernel_rfl) (⟨q39,trivial⟩) (fun hHeld=>?_);refine tkm 4 [(0,17),(2,19),(3,20),(4,21)] (by kernel_rfl) (fun _ _ _ _ _ h=>h) (by assumption) ?_;iterate 4
  refine ysC (v:=?_) rfl rfl (fun w9 hS9=>?_) ?_;rotate_left
  ·try dsimp only at hS9
   go_split_ands;go_simp;try with_reducible rfl
  simp only [Act.put,List.setIfInBounds_toArray,List.set_cons_zero,List.set_cons_succ]
 refine ysN ?_;refine rd2 1 6 (by kernel_rfl) rfl rfl (fun K9 hK9=>?_) (fun K9 hK9=>?_)
 ·have hx:=0;go_simp;refine (HX.out _ HB1.out.drew).mono ?_;rintro e w3 ⟨rfl,rfl⟩;go_simp;refine hK9.out _ _ (hHeld) (fun hHeld=>?_);clear hK9 K9;refine tkm 1 [(5,22)] (by kernel_rfl) (fun _ _ _ _ _ h=>h) (by assumption) ?_;refine ysC (v:=?_) rfl rfl (fun w9 hS9=>?_) ?_;rotate_left
  ·try dsimp only at hS9
   go_split_ands;go_simp;try with_reducible rfl
  simp only [Act.put,List.setIfInBounds_toArray,List.set_cons_zero,List.set_cons_succ];refine ysN ?_;refine rd2 6 7 (by kernel_rfl) rfl rfl (fun K9 hK9=>?_) (fun K9 hK9=>?_)
  ·go_simp;refine hK9.out _ _ (⟨q3',trivial⟩) (fun hHeld=>?_);clear hK9 K9;refine rd1 7 (by kernel_rfl) rfl (fun K9 hK9=>?_);go_simp;refine hK9.out _ _ (by go_keep) (fun hHeld=>?_);clear hK9 K9;refine tkm 2 [(8,5),(9,6)] (by kernel_rfl) (fun _ _ _ _ _ h=>h) (by assumption) ?_;iterate 2
    refine ysC (v:=?_) rfl rfl (fun w9 hS9=>?_) ?_;rotate_left
    ·try dsimp only at hS9
     go_split_ands;go_simp;try with_reducible rfl
    simp only [Act.put,List.setIfInBounds_toArray,List.set_cons_zero,List.set_cons_succ]
   refine ysN ?_;refine wpAnyH_done (by kernel_rfl) ?_ _;go_wp2_with fail;refine bodyPost_ret (results_row3 rfl _ _ _ _ _ _ _ rfl E5.out Tryz.underlying223 rfl (by kernel_rfl)) rfl ?_;refine ⟨W1.heap.size,by rw [←HAV.out];rfl,S5.out,by have:=HS1.out;omega,B5.out⟩
  ·go_simp;refine hK9.out _ _ (by go_keep) (fun hHeld=>?_);clear hK9 K9;refine rd1 6 (by kernel_rfl) rfl (fun K9 hK9=>?_);go_simp;refine hK9.out _ _ (by go_keep) (fun hHeld=>?_);clear hK9 K9;refine tkm 2 [(8,5),(9,6)] (by kernel_rfl) (fun _ _ _ _ _ h=>h) (by assumption) ?_;iterate 2
    refine ysC (v:=?_) rfl rfl (fun w9 hS9=>?_) ?_;rotate_left
    ·try dsimp only at hS9
     go_split_ands;go_simp;try with_reducible rfl
    simp only [Act.put,List.setIfInBounds_toArray,List.set_cons_zero,List.set_cons_succ]
   refine ysN ?_;refine wpAnyH_done (by kernel_rfl) ?_ _;go_wp2_with fail;refine bodyPost_ret (results_row3 rfl _ _ _ _ _ _ _ rfl E6.out Tryz.underlying223 rfl (by kernel_rfl)) rfl ?_;refine ⟨W1.heap.size,by rw [←HAV.out];rfl,S6.out,by have:=HS1.out;omega,B6.out⟩
 ·go_simp;refine hK9.out _ _ (⟨q3',trivial⟩) (fun hHeld=>?_);clear hK9 K9;refine rd1 1 (by kernel_rfl) rfl (fun K9 hK9=>?_);go_simp;refine (HX.out _ HB3.out.drew).mono ?_;rintro e w3 ⟨rfl,rfl⟩;go_simp;refine hK9.out _ _ (hHeld) (fun hHeld=>?_);clear hK9 K9;refine tkm 1 [(5,22)] (by kernel_rfl) (fun _ _ _ _ _ h=>h) (by assumption) ?_;refine ysC (v:=?_) rfl rfl (fun w9 hS9=>?_) ?_;rotate_left
  ·try dsimp only at hS9
   go_split_ands;go_simp;try with_reducible rfl
  simp only [Act.put,List.setIfInBounds_toArray,List.set_cons_zero,List.set_cons_succ];refine ysN ?_;refine rd1 7 (by kernel_rfl) rfl (fun K9 hK9=>?_);go_simp;refine hK9.out _ _ (by go_keep) (fun hHeld=>?_);clear hK9 K9;refine tkm 2 [(8,5),(9,6)] (by kernel_rfl) (fun _ _ _ _ _ h=>h) (by assumption) ?_;iterate 2
   refine ysC (v:=?_) rfl rfl (fun w9 hS9=>?_) ?_;rotate_left
   ·try dsimp only at hS9
    go_split_ands;go_simp;try with_reducible rfl
   simp only [Act.put,List.setIfInBounds_toArray,List.set_cons_zero,List.set_cons_succ]
  refine ysN ?_;refine wpAnyH_done (by kernel_rfl) ?_ _;go_wp2_with fail;refine bodyPost_ret (results_row3 rfl _ _ _ _ _ _ _ rfl E5.out Tryz.underlying223 rfl (by kernel_rfl)) rfl ?_;refine ⟨W1.heap.size,by rw [←HAV.out];rfl,S5.out,by have:=HS1.out;omega,B5.out⟩
end
end Go.Proofs.YtdjiopacieadpaaGreatDoor
