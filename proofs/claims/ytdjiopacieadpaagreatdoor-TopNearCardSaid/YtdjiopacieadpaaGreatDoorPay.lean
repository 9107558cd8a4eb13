/- TopNear: part Pay: ReqC CsA Cat FlatPlain. -/
import Derived.Test.YtdjiopacieadpaaGreatDoorPax
import Derived.Lib.AppendZeros
set_option linter.unusedVariables false
set_option linter.unusedSimpArgs false
set_option maxRecDepth 8000
set_option maxHeartbeats 8000000
namespace Go.Proofs.YtdjiopacieadpaaGreatDoor
section
open Go.RowKit
open BookPlain (Rp Rq)
theorem sindex_any (v:Value)(l:List Nat)(x:Nat)(w:World)(hv:Sl w v (Lq l))(hl:l.length≤100)(hx:x∈l):Calls Tryz.prog 179 #[v,.int .i64 x] w fun e w'=> ∃i:Nat,e = .returned (.int .i64 i)∧w=w':=by
 obtain ⟨a,c,rfl,hc,hcm⟩:=Sl_len hv;rw [Lq_len] at hv hc ⊢;have HV:=hid hv;have HX:=hid hx;clear hv hx;go_enter Tryz.func179,Tryz.ntmps179;go_wp2_with fail;go_loopw [8] (fun i wi=>wi=w∧ ∃j:Nat,j≤l.length∧i = .int .i64 j∧x ∉ l.take j) (fun i _=>l.length-(intOf i).toNat)
 case atStart=>exact ⟨rfl,0,by omega,rfl,by simp⟩
 case round=>
  obtain ⟨hw,j,hj,rfl,hn⟩:=hrel;obtain rfl:=hw;have HN:=hid hn;clear hn;by_cases hlt:j<l.length
  ·have hltI:(j:Int)<(l.length:Int):=by omega
   obtain ⟨b,off,rfl,hb,hc9⟩:=Sl_cellQ HV.out hlt;by_cases he:x=l[j]
   ·have hd:((x:Int) == ((l[j]:Nat):Int))=true:=by rw [←he];simp
    generalize l[j]=y at hc9 hd he;clear he;go_wp2_with fail;go_ret;first | exact ⟨j,rfl,rfl⟩ | exact ⟨j,trivial,rfl⟩ | simp
   ·have hd:((x:Int) == ((l[j]:Nat):Int))=false:=by simp;omega
    have HN2:=hid (show x ∉ l.take (j+1) by
     rw [List.take_succ_eq_append_getElem hlt,List.mem_append,List.mem_singleton];rintro (h | h)
     ·exact HN.out h
     ·exact he h)
    generalize l[j]=y at hc9 hd he;clear he HN;go_wp2_with fail;go_roundw;case rel=>exact ⟨by first | trivial | rfl,j+1,by omega,by go_num,HN2.out⟩
    case measure=>simp [intOf];omega
  ·exfalso;have:=HN.out;rw [List.take_of_length_le (by omega)] at this;exact this HX.out
theorem scontains_any (v:Value)(l:List Nat)(x:Nat)(w:World)(hv:Sl w v (Lq l))(hl:l.length≤100)(hx:x∈l):Calls Tryz.prog 144 #[v,.int .i64 x] w fun e w'=>e = .returned (.bool true)∧w=w':=by
 have H:=hid (sindex_any v l x w hv hl hx);clear hv hx;go_enter Tryz.func144,Tryz.ntmps144;go_wp2_with fail;refine H.out.mono ?_;rintro e w' ⟨i,rfl,rfl⟩;have h0:decide (0≤(i:Int))=true:=by simp
 go_wp2_with fail;go_ret;exact ⟨rfl,rfl⟩
structure OkRq (q:Rq):Prop where
 k:1≤q.k∧q.k≤10
 tag:q.tag<4294967296
 id:q.id<4294967296
 seat:q.seat≤65535
 ttl:q.ttl<9223372036854775808
 id0:q.id≠0→0∈fsF q.k
 seat0:q.seat≠0→1∈fsF q.k
 ttl0:q.ttl≠0→2∈fsF q.k
theorem fidx0 (w:World):(Instr.index 123 (.agg #[.func (.func 89) #[] #[],.func (.func 90) #[] #[],.func (.func 91) #[] #[],.func (.func 92) #[] #[],.func (.func 93) #[] #[],.func (.func 94) #[] #[],.func (.func 95) #[] #[],.func (.func 96) #[] #[],.func (.func 97) #[] #[]]) (.int .i64 0)).run Tryz.prog w = .ok (.agg #[.func (.func 89) #[] #[],.func (.func 90) #[] #[],.func (.func 91) #[] #[]]) w:=by kernel_rfl
theorem fidx1 (w:World):(Instr.index 123 (.agg #[.func (.func 89) #[] #[],.func (.func 90) #[] #[],.func (.func 91) #[] #[],.func (.func 92) #[] #[],.func (.func 93) #[] #[],.func (.func 94) #[] #[],.func (.func 95) #[] #[],.func (.func 96) #[] #[],.func (.func 97) #[] #[]]) (.int .i64 1)).run Tryz.prog w = .ok (.agg #[.func (.func 92) #[] #[],.func (.func 93) #[] #[],.func (.func 94) #[] #[]]) w:=by kernel_rfl
theorem fidx2 (w:World):(Instr.index 123 (.agg #[.func (.func 89) #[] #[],.func (.func 90) #[] #[],.func (.func 91) #[] #[],.func (.func 92) #[] #[],.func (.func 93) #[] #[],.func (.func 94) #[] #[],.func (.func 95) #[] #[],.func (.func 96) #[] #[],.func (.func 97) #[] #[]]) (.int .i64 2)).run Tryz.prog w = .ok (.agg #[.func (.func 95) #[] #[],.func (.func 96) #[] #[],.func (.func 97) #[] #[]]) w:=by kernel_rfl
theorem reqcheck_any (q:Rq)(hq:OkRq q)(w:World):Calls Tryz.prog 79 #[.agg (rqC q.k q.tag q.id q.seat q.ttl)] w fun e w'=>e = .returned (.int .i64 0)∧Below w.heap.size w w':=by
 obtain ⟨k,t,i,s,u⟩:=q;obtain ⟨h1,h2,h3,h4,h5,h6,h7,h8⟩:=hq;unfold rqC;dsimp only at h1 h2 h3 h4 h5 h6 h7 h8 ⊢;have hk:rkB k=true:=by unfold rkB;rw [decide_eq_true_iff];exact h1
 have HO:=hid (reqof_any k);unfold ReqOf at HO;rw [hk] at HO;have H6:=hid h6;have H7:=hid h7;have H8:=hid h8;have hs0:¬(s:Int)<0:=by omega
 have hs1:¬(65535:Int)<(s:Int):=by omega
 have hu0:¬(u:Int)<0:=by omega
 clear h1 h2 h3 h4 h5 h6 h7 h8 hk;go_enter Tryz.func79,Tryz.ntmps79;go_wp2_with fail;refine at_new1 ?_;intro w0 p0 ns nb;refine (HO.out _).mono ?_;rintro e w1 ⟨hv,rfl,hS,hOwn,hb⟩;have HP:=hid (Bl.blk hb p0);have HB:=hid (Bl.trans nb hb);obtain ⟨ha,hcc,rfl,_,_⟩:=Sl_len hS;rw [Lq_len] at hS hOwn ⊢;have HS:=hid hS;have hsz:w.heap.size<w1.heap.size:=by have:=hb.size;omega
 obtain ⟨c0,_,c1,_,c2,_,c3,_,c4,_⟩:=cells5 HP.out;clear p0 ns nb hb hS HO;go_wp2_with fail;refine (fields_any _).mono ?_;rintro e w2 ⟨rfl,hb⟩;have HP2:=hid (Bl.blk hb HP.out);have HB2:=hid (HB.out.trans (hb.mono (by omega)));have HS2:=hid (Sl_below HS.out hb (Nat.le_refl _));have hsz2:w.heap.size<w2.heap.size:=by have:=hb.size;omega
 clear c0 c1 c2 c3 c4 HP HB HS hb hOwn hsz;unfold fldC;go_wp2_with fail;go_loopw [31] (fun i9 wi=> ∃(j:Nat) (J:Int),j≤3∧J=(j:Int)∧i9 = .int .i64 J∧wi.heap[w.heap.size]?=some (.cells #[.int .i64 k,.int .u32 t,.int .u32 i,.int .i64 s,.int .i64 u] 48 (0,0))∧Sl wi (.slice ha (fsF k).length hcc) (Lq (fsF k))∧Below w.heap.size w wi) (fun i _=>3-(intOf i).toNat)
 case atStart=>exact ⟨0,0,by omega,rfl,rfl,HP2.out,HS2.out,HB2.out⟩
 case round=>
  obtain ⟨j,J,hj,hJ,rfl,hP,hS,hB⟩:=hrel;have HP:=hid hP;have HS:=hid hS;have HB:=hid hB;have hsz:w.heap.size<wr.heap.size:=heap_lt hP;have hln:=fsF_len k;obtain ⟨c0,_,c1,_,c2,_,c3,_,c4,_⟩:=cells5 HP.out;clear hP hS hB HP2 HS2 HB2;have h4:j=0∨j=1∨j=2∨j=3:=by omega
  rcases h4 with h4 | h4 | h4 | h4
  ·subst h4;obtain rfl:J=0:=hJ;have hx:=fidx0;by_cases hzz:i=0
   ·have hz:((i:Int) == 0)=true:=by simp [hzz]
    have HZ:=hid hz;have HZZ:=hid hzz;clear hz hzz;go_wp2_with (refine wpList_store_all rfl 122 _ _ rfl wr.heap.size 122 _ _ rfl rfl (new1 _ _).1 rfl (by kernel_rfl) (by simp [Value.oneCell']) ?_;intro w7 hb7 hs7 hk7;have hN7:=(new1 wr (.cells #[.nilFunc,.nilFunc,.nilFunc] 122)).2.2;have hp7:=hk7.blk (Bl.blk hN7 HP.out) (by omega);have HP7:=hid hp7;have HB7:=hid ((HB.out.trans (hN7.mono (by omega))).trans (hk7.below (by simp;omega) (fun i hi=>by omega)));have hS7:=Sl_below HS.out hN7 (Nat.le_refl _);have hS8:=Sl_below HS.out (hN7.trans (hk7.below (B:=wr.heap.size) (by simp) (fun i hi=>by omega))) (Nat.le_refl _);have HS7:=hid hS8;obtain ⟨f0,_,f1,_,f2,_⟩:=cells3 hb7;obtain ⟨d0,_,d1,_,d2,_,d3,_,d4,_⟩:=cells5 HP7.out;clear hN7 hp7 hS7 hS8 hk7 hs7 hb7);refine (zero0 k t s (i:Int) (u:Int) _).mono ?_;rintro o w8 ⟨rfl,hb⟩;have hp8:=Bl.blk hb HP7.out;have HP8:=hid hp8;have HS8:=hid (Sl_below HS7.out hb (Nat.le_refl _));have HB8:=hid (HB7.out.trans (hb.mono HB7.out.size));clear hp8 hb;rw [HZ.out];go_wp2_with fail;go_roundw;case rel=>exact ⟨1,1,by omega,rfl,rfl,HP8.out,HS8.out,HB8.out⟩
    case measure=>simp [intOf]
   ·have hz:((i:Int) == 0)=false:=by simp;omega
    have HM:=hid (H6.out hzz);have HZ:=hid hz;have HZZ:=hid hzz;clear hz hzz;go_wp2_with (refine wpList_store_all rfl 122 _ _ rfl wr.heap.size 122 _ _ rfl rfl (new1 _ _).1 rfl (by kernel_rfl) (by simp [Value.oneCell']) ?_;intro w7 hb7 hs7 hk7;have hN7:=(new1 wr (.cells #[.nilFunc,.nilFunc,.nilFunc] 122)).2.2;have hp7:=hk7.blk (Bl.blk hN7 HP.out) (by omega);have HP7:=hid hp7;have HB7:=hid ((HB.out.trans (hN7.mono (by omega))).trans (hk7.below (by simp;omega) (fun i hi=>by omega)));have hS7:=Sl_below HS.out hN7 (Nat.le_refl _);have hS8:=Sl_below HS.out (hN7.trans (hk7.below (B:=wr.heap.size) (by simp) (fun i hi=>by omega))) (Nat.le_refl _);have HS7:=hid hS8;obtain ⟨f0,_,f1,_,f2,_⟩:=cells3 hb7;obtain ⟨d0,_,d1,_,d2,_,d3,_,d4,_⟩:=cells5 HP7.out;clear hN7 hp7 hS7 hS8 hk7 hs7 hb7);refine (zero0 k t s (i:Int) (u:Int) _).mono ?_;rintro o w8 ⟨rfl,hb⟩;have hp8:=Bl.blk hb HP7.out;have HP8:=hid hp8;have HS8:=hid (Sl_below HS7.out hb (Nat.le_refl _));have HB8:=hid (HB7.out.trans (hb.mono HB7.out.size));clear hp8 hb;rw [HZ.out];go_wp2_with fail;refine (scontains_any _ (fsF k) 0 _ HS8.out (by omega) HM.out).mono ?_;rintro o w' ⟨rfl,rfl⟩;go_wp2_with fail;go_roundw;case rel=>exact ⟨1,1,by omega,rfl,rfl,HP8.out,HS8.out,HB8.out⟩
    case measure=>simp [intOf]
  ·subst h4;obtain rfl:J=1:=hJ;have hx:=fidx1;by_cases hzz:s=0
   ·have hz:((s:Int) == 0)=true:=by simp [hzz]
    have HZ:=hid hz;have HZZ:=hid hzz;clear hz hzz;go_wp2_with (refine wpList_store_all rfl 122 _ _ rfl wr.heap.size 122 _ _ rfl rfl (new1 _ _).1 rfl (by kernel_rfl) (by simp [Value.oneCell']) ?_;intro w7 hb7 hs7 hk7;have hN7:=(new1 wr (.cells #[.nilFunc,.nilFunc,.nilFunc] 122)).2.2;have hp7:=hk7.blk (Bl.blk hN7 HP.out) (by omega);have HP7:=hid hp7;have HB7:=hid ((HB.out.trans (hN7.mono (by omega))).trans (hk7.below (by simp;omega) (fun i hi=>by omega)));have hS7:=Sl_below HS.out hN7 (Nat.le_refl _);have hS8:=Sl_below HS.out (hN7.trans (hk7.below (B:=wr.heap.size) (by simp) (fun i hi=>by omega))) (Nat.le_refl _);have HS7:=hid hS8;obtain ⟨f0,_,f1,_,f2,_⟩:=cells3 hb7;obtain ⟨d0,_,d1,_,d2,_,d3,_,d4,_⟩:=cells5 HP7.out;clear hN7 hp7 hS7 hS8 hk7 hs7 hb7);refine (zero1 k t i (s:Int) (u:Int) _).mono ?_;rintro o w8 ⟨rfl,hb⟩;have hp8:=Bl.blk hb HP7.out;have HP8:=hid hp8;have HS8:=hid (Sl_below HS7.out hb (Nat.le_refl _));have HB8:=hid (HB7.out.trans (hb.mono HB7.out.size));clear hp8 hb;rw [HZ.out];go_wp2_with fail;go_roundw;case rel=>exact ⟨2,2,by omega,rfl,rfl,HP8.out,HS8.out,HB8.out⟩
    case measure=>simp [intOf]
   ·have hz:((s:Int) == 0)=false:=by simp;omega
    have HM:=hid (H7.out hzz);have HZ:=hid hz;have HZZ:=hid hzz;clear hz hzz;go_wp2_with (refine wpList_store_all rfl 122 _ _ rfl wr.heap.size 122 _ _ rfl rfl (new1 _ _).1 rfl (by kernel_rfl) (by simp [Value.oneCell']) ?_;intro w7 hb7 hs7 hk7;have hN7:=(new1 wr (.cells #[.nilFunc,.nilFunc,.nilFunc] 122)).2.2;have hp7:=hk7.blk (Bl.blk hN7 HP.out) (by omega);have HP7:=hid hp7;have HB7:=hid ((HB.out.trans (hN7.mono (by omega))).trans (hk7.below (by simp;omega) (fun i hi=>by omega)));have hS7:=Sl_below HS.out hN7 (Nat.le_refl _);have hS8:=Sl_below HS.out (hN7.trans (hk7.below (B:=wr.heap.size) (by simp) (fun i hi=>by omega))) (Nat.le_refl _);have HS7:=hid hS8;obtain ⟨f0,_,f1,_,f2,_⟩:=cells3 hb7;obtain ⟨d0,_,d1,_,d2,_,d3,_,d4,_⟩:=cells5 HP7.out;clear hN7 hp7 hS7 hS8 hk7 hs7 hb7);refine (zero1 k t i (s:Int) (u:Int) _).mono ?_;rintro o w8 ⟨rfl,hb⟩;have hp8:=Bl.blk hb HP7.out;have HP8:=hid hp8;have HS8:=hid (Sl_below HS7.out hb (Nat.le_refl _));have HB8:=hid (HB7.out.trans (hb.mono HB7.out.size));clear hp8 hb;rw [HZ.out];go_wp2_with fail;refine (scontains_any _ (fsF k) 1 _ HS8.out (by omega) HM.out).mono ?_;rintro o w' ⟨rfl,rfl⟩;go_wp2_with fail;go_roundw;case rel=>exact ⟨2,2,by omega,rfl,rfl,HP8.out,HS8.out,HB8.out⟩
    case measure=>simp [intOf]
  ·subst h4;obtain rfl:J=2:=hJ;have hx:=fidx2;by_cases hzz:u=0
   ·have hz:((u:Int) == 0)=true:=by simp [hzz]
    have HZ:=hid hz;have HZZ:=hid hzz;clear hz hzz;go_wp2_with (refine wpList_store_all rfl 122 _ _ rfl wr.heap.size 122 _ _ rfl rfl (new1 _ _).1 rfl (by kernel_rfl) (by simp [Value.oneCell']) ?_;intro w7 hb7 hs7 hk7;have hN7:=(new1 wr (.cells #[.nilFunc,.nilFunc,.nilFunc] 122)).2.2;have hp7:=hk7.blk (Bl.blk hN7 HP.out) (by omega);have HP7:=hid hp7;have HB7:=hid ((HB.out.trans (hN7.mono (by omega))).trans (hk7.below (by simp;omega) (fun i hi=>by omega)));have hS7:=Sl_below HS.out hN7 (Nat.le_refl _);have hS8:=Sl_below HS.out (hN7.trans (hk7.below (B:=wr.heap.size) (by simp) (fun i hi=>by omega))) (Nat.le_refl _);have HS7:=hid hS8;obtain ⟨f0,_,f1,_,f2,_⟩:=cells3 hb7;obtain ⟨d0,_,d1,_,d2,_,d3,_,d4,_⟩:=cells5 HP7.out;clear hN7 hp7 hS7 hS8 hk7 hs7 hb7);refine (zero2 k t i s (u:Int) _).mono ?_;rintro o w8 ⟨rfl,hb⟩;have hp8:=Bl.blk hb HP7.out;have HP8:=hid hp8;have HS8:=hid (Sl_below HS7.out hb (Nat.le_refl _));have HB8:=hid (HB7.out.trans (hb.mono HB7.out.size));clear hp8 hb;rw [HZ.out];go_wp2_with fail;go_roundw;case rel=>exact ⟨3,3,by omega,rfl,rfl,HP8.out,HS8.out,HB8.out⟩
    case measure=>simp [intOf]
   ·have hz:((u:Int) == 0)=false:=by simp;omega
    have HM:=hid (H8.out hzz);have HZ:=hid hz;have HZZ:=hid hzz;clear hz hzz;go_wp2_with (refine wpList_store_all rfl 122 _ _ rfl wr.heap.size 122 _ _ rfl rfl (new1 _ _).1 rfl (by kernel_rfl) (by simp [Value.oneCell']) ?_;intro w7 hb7 hs7 hk7;have hN7:=(new1 wr (.cells #[.nilFunc,.nilFunc,.nilFunc] 122)).2.2;have hp7:=hk7.blk (Bl.blk hN7 HP.out) (by omega);have HP7:=hid hp7;have HB7:=hid ((HB.out.trans (hN7.mono (by omega))).trans (hk7.below (by simp;omega) (fun i hi=>by omega)));have hS7:=Sl_below HS.out hN7 (Nat.le_refl _);have hS8:=Sl_below HS.out (hN7.trans (hk7.below (B:=wr.heap.size) (by simp) (fun i hi=>by omega))) (Nat.le_refl _);have HS7:=hid hS8;obtain ⟨f0,_,f1,_,f2,_⟩:=cells3 hb7;obtain ⟨d0,_,d1,_,d2,_,d3,_,d4,_⟩:=cells5 HP7.out;clear hN7 hp7 hS7 hS8 hk7 hs7 hb7);refine (zero2 k t i s (u:Int) _).mono ?_;rintro o w8 ⟨rfl,hb⟩;have hp8:=Bl.blk hb HP7.out;have HP8:=hid hp8;have HS8:=hid (Sl_below HS7.out hb (Nat.le_refl _));have HB8:=hid (HB7.out.trans (hb.mono HB7.out.size));clear hp8 hb;rw [HZ.out];go_wp2_with fail;refine (scontains_any _ (fsF k) 2 _ HS8.out (by omega) HM.out).mono ?_;rintro o w' ⟨rfl,rfl⟩;go_wp2_with fail;go_roundw;case rel=>exact ⟨3,3,by omega,rfl,rfl,HP8.out,HS8.out,HB8.out⟩
    case measure=>simp [intOf]
  ·subst h4;obtain rfl:J=3:=hJ;go_wp2_with fail;go_ret;exact ⟨rfl,HB.out⟩
end
section
open Go.RowKit BookPlain
def getA (b:Bk)(id:Nat):Bo×Nat:=match get b id with | none=>(z,171) | some x=>(x,0)
def atA (b:Bk)(i:Nat):Bo×Nat:=if b.s≤i then (z,140) else if held b i then ((b.l[i]?).getD z,0) else (z,171)
theorem kget (p:Nat)(F:Nat→Prop)(K:Nat)(b:Bk)(id:Nat)(w:World)(h:Bkk w p F K b)(hi:id<4294967296):Calls Tryz.prog 160 #[.pointer (some ⟨p,0,none⟩),.int .u32 id] w fun e w'=>e = .returned (.tuple #[boV (getA b id).1,.int .i64 ((getA b id).2:Int)])∧Bkk w' p F K b∧Kp F w w':=by
 obtain ⟨m,hw,hr,rfl,rfl,hT⟩:=h;have hM:=hr.M id;unfold getA;cases hg:get b id with
 | none=>
  rw [hg] at hM;refine (bget_no m id w hw hi hM).mono ?_;rintro e w' ⟨rfl,h1,h2⟩;exact ⟨rfl,⟨m,h1,hr,rfl,rfl,hT⟩,h2⟩
 | some x=>
  rw [hg] at hM;obtain ⟨g0,g1,g2,g3⟩:=get_some hr.fine hg;refine (bget_yes m id x.2.1 x w hw hi hM (by rw [hr.l];exact g2)).mono ?_;rintro e w' ⟨rfl,h1,h2⟩;exact ⟨rfl,⟨m,h1,hr,rfl,rfl,hT⟩,h2⟩
theorem kat (p:Nat)(F:Nat→Prop)(K:Nat)(b:Bk)(i:Nat)(w:World)(h:Bkk w p F K b):Calls Tryz.prog 172 #[.pointer (some ⟨p,0,none⟩),.int .i64 i] w fun e w'=>e = .returned (.tuple #[boV (atA b i).1,.int .i64 ((atA b i).2:Int)])∧Below w.heap.size w w':=by
 obtain ⟨m,hw,hr,rfl,rfl,hT⟩:=h;unfold atA;by_cases h1:b.s≤i
 ·rw [if_pos h1];exact bat_high m i w hw (by rw [hr.s];exact h1)
 ·rw [if_neg h1];have hW:=hr.W i (by omega);have hl:i<b.l.length:=by rw [hr.fine.len];omega
  have hx:=List.getElem?_eq_getElem hl;by_cases h2:held b i=true
  ·rw [if_pos h2,hx];exact bat_yes m i _ w hw (by rw [hr.l];exact hx) (by rw [hW];exact h2)
  ·rw [if_neg h2];exact bat_no m i w hw (by rw [hr.s];omega) (by rw [hW];simpa using h2)
theorem refuses_any (so:Bool)(e:Int)(w:World):Calls Tryz.prog 220 #[.bool so,.int .i64 e] w fun o w'=>o = .returned (.int .i64 (if so then e else 0))∧w=w':=by
 cases so with
 | true=>
  go_enter Tryz.func220,Tryz.ntmps220;go_wp2;go_ret;exact ⟨rfl,rfl⟩
 | false=>
  go_enter Tryz.func220,Tryz.ntmps220;go_wp2;go_ret;exact ⟨rfl,rfl⟩
theorem fld0 (a b c:Int)(w:World):(Instr.field 23 (.agg #[.int .i64 a,.int .i64 b,.int .i64 c]) 0).run Tryz.prog w = .ok (.int .i64 a) w:=by kernel_rfl
theorem fld1 (a b c:Int)(w:World):(Instr.field 23 (.agg #[.int .i64 a,.int .i64 b,.int .i64 c]) 1).run Tryz.prog w = .ok (.int .i64 b) w:=by kernel_rfl
def askC (p:Nat)(q:Rq)(r:Rec)(room:Nat):Array Value:=#[.pointer (some ⟨p,0,none⟩),.int .i64 q.k,.int .u32 q.tag,.int .u32 q.id,.int .i64 q.seat,.int .i64 q.ttl,.int .i64 r.k,.int .u32 r.id,.int .i64 r.s,.int .i64 r.u,.int .i64 r.q,.int .i64 room]
def CRule (w:World)(p:Nat)(F:Nat→Prop)(K:Nat)(b:Bk)(n:Nat)(e:Ending)(w':World):Prop:=e = .returned (.int .i64 n)∧Bkk w' p F K b∧Kp F w w'
theorem CRule.below {w w':World}{p:Nat}{F:Nat→Prop}{K:Nat}{b:Bk}{n:Nat}(h:Bkk w p F K b)(hb:Below w.heap.size w w'):CRule w p F K b n (.returned (.int .i64 n)) w':=⟨rfl,h.new hb,Kp.of_new hb⟩
theorem rule0_any (p:Nat)(F:Nat→Prop)(K:Nat)(b:Bk)(q:Rq)(r:Rec)(room need:Nat)(w:World)(h:Bkk w p F K b):Calls Tryz.prog 200 #[.agg (askC p q r room)] w (CRule w p F K b (ruleF b q need room 0)):=by
 obtain ⟨W,hW⟩:∃W,w.alloc (.cells (askC p q r room) 291)=W:=⟨_,rfl⟩;have N:=new1 w (.cells (askC p q r room) 291);rw [hW] at N;unfold askC at *;obtain ⟨c0,_,c1,_,c2,_,c3,_,c4,_,c5,_,c6,_,c7,_,c8,_,c9,_,c10,_,c11,_⟩:=cells12 N.1;have H:=hid (fun W' (hb:Below w.heap.size w W')=>kshape p F K b W' (h.new hb));have HN:=hid N;have hAl:w.heap.size<W.heap.size:=by omega
 have HC:=hid (fun W' (hb:Below w.heap.size w W')=>CRule.below (n:=ruleF b q need room 0) h hb);have hv:((ruleF b q need room 0:Nat):Int)=if decide (b.s≤q.seat)=true then 140 else 0:=by
  show (((if b.s≤q.seat then 140 else 0):Nat):Int)=_
  by_cases e:b.s≤q.seat
  ·rw [if_pos e,if_pos (by simpa using e)];rfl
  ·rw [if_neg e,if_neg (by simpa using e)];rfl
 generalize ruleF b q need room 0=nr at *;have hf:=fld0 b.s b.c b.g;clear N h;go_enter Tryz.func200,Tryz.ntmps200;go_wp2_with fail;go_region_held_law (fun w'=>w'.cell? ⟨w.heap.size,0,none⟩=some (.pointer (some ⟨p,0,none⟩))∧w'.cell? ⟨w.heap.size,4,none⟩=some (.int .i64 q.seat)) (first | assumption | go_keep)
  (
   first
   | (
    go_at_call 60;refine (H.out _ HN.out.2.2.drew).mono ?_
    rintro e w3 ⟨rfl,hb⟩;have HB3:=hid (HN.out.2.2.drew.trans (hb.mono (Nat.le_of_lt hAl)));have e0:=(hb.cell (p:=⟨w.heap.size,0,none⟩) hAl).trans c0;have e4:=(hb.cell (p:=⟨w.heap.size,4,none⟩) hAl).trans c4;clear hb)
   | (
    go_at_call 220;refine (refuses_any _ _ _).mono ?_
    rintro e w5 ⟨rfl,rfl⟩;rw [←hv];clear hv))
 all_goals
  go_wp2_with fail;go_ret;exact HC.out _ HB3.out
theorem rule1_any (p:Nat)(F:Nat→Prop)(K:Nat)(b:Bk)(q:Rq)(r:Rec)(room need:Nat)(w:World)(h:Bkk w p F K b):Calls Tryz.prog 201 #[.agg (askC p q r room)] w (CRule w p F K b (ruleF b q need room 1)):=by
 obtain ⟨W,hW⟩:∃W,w.alloc (.cells (askC p q r room) 291)=W:=⟨_,rfl⟩;have N:=new1 w (.cells (askC p q r room) 291);rw [hW] at N;unfold askC at *;obtain ⟨c0,_,c1,_,c2,_,c3,_,c4,_,c5,_,c6,_,c7,_,c8,_,c9,_,c10,_,c11,_⟩:=cells12 N.1;have HN:=hid N;have hAl:w.heap.size<W.heap.size:=by omega
 have HC:=hid (fun W' (hb:Below w.heap.size w W')=>CRule.below (n:=ruleF b q need room 1) h hb);have HR:=fun so W'=>hid (refuses_any so 2 W')
 clear N h;by_cases h1:q.ttl<1
 ·have hv:ruleF b q need room 1=2:=by show (if q.ttl<1∨TTL<q.ttl then 2 else 0)=2;rw [if_pos (Or.inl h1)]
  have h1I:(q.ttl:Int)<1:=by omega
  rw [hv] at HC ⊢;go_enter Tryz.func201,Tryz.ntmps201;go_wp2_with (go_at_call 220;refine (refuses_any _ _ _).mono ?_;rintro e w5 ⟨rfl,rfl⟩);go_ret;exact HC.out _ HN.out.2.2
 ·by_cases h2:TTL<q.ttl
  ·have hv:ruleF b q need room 1=2:=by show (if q.ttl<1∨TTL<q.ttl then 2 else 0)=2;rw [if_pos (Or.inr h2)]
   have h1I:¬(q.ttl:Int)<1:=by omega
   have h2I:(1073741824:Int)<(q.ttl:Int):=by unfold TTL at h2;omega
   rw [hv] at HC ⊢;go_enter Tryz.func201,Tryz.ntmps201;go_wp2_with (go_at_call 220;refine (refuses_any _ _ _).mono ?_;rintro e w5 ⟨rfl,rfl⟩);go_ret;exact HC.out _ HN.out.2.2
  ·have hv:ruleF b q need room 1=0:=by show (if q.ttl<1∨TTL<q.ttl then 2 else 0)=0;rw [if_neg (by omega)]
   have h1I:¬(q.ttl:Int)<1:=by omega
   have h2I:¬(1073741824:Int)<(q.ttl:Int):=by unfold TTL at h2;omega
   rw [hv] at HC ⊢;go_enter Tryz.func201,Tryz.ntmps201;go_wp2_with (go_at_call 220;refine (refuses_any _ _ _).mono ?_;rintro e w5 ⟨rfl,rfl⟩);go_ret;exact HC.out _ HN.out.2.2
theorem rule2_any (p:Nat)(F:Nat→Prop)(K:Nat)(b:Bk)(q:Rq)(r:Rec)(room need:Nat)(w:World)(h:Bkk w p F K b)(hcl:b.clock≤M)(ht:q.ttl≤TTL):Calls Tryz.prog 202 #[.agg (askC p q r room)] w (CRule w p F K b (ruleF b q need room 2)):=by
 obtain ⟨W,hW⟩:∃W,w.alloc (.cells (askC p q r room) 291)=W:=⟨_,rfl⟩;have N:=new1 w (.cells (askC p q r room) 291);rw [hW] at N;unfold askC at *;obtain ⟨c0,_,c1,_,c2,_,c3,_,c4,_,c5,_,c6,_,c7,_,c8,_,c9,_,c10,_,c11,_⟩:=cells12 N.1;have HN:=hid N;have hAl:w.heap.size<W.heap.size:=by omega
 have HC:=hid (fun W' (hb:Below w.heap.size w W')=>CRule.below (n:=ruleF b q need room 2) h hb);have HK:=hid (fun W' (hb:Below w.heap.size w W')=>kclock p F K b W' (h.new hb));have hM:M=1099511627776:=rfl;have hT:TTL=1073741824:=rfl;rw [hM] at hcl;rw [hT] at ht;by_cases e:M<b.clock+q.ttl
 ·have hv:ruleF b q need room 2=172:=by show (if M<b.clock+q.ttl then 172 else 0)=172;rw [if_pos e]
  have eI:(1099511627776:Int)<(b.clock:Int)+(q.ttl:Int):=by rw [hM] at e;omega
  rw [hv] at HC ⊢;clear N h hv;go_enter Tryz.func202,Tryz.ntmps202;go_wp2_with fail;go_quiet (first | (go_at_call 62;exact Calls.quiet_of_same ((HK.out _ (below_drewN HN.out.2.2 _)).mono (fun _ _ h=>⟨h.1,h.2.symm⟩))) | (go_at_call 220;exact Calls.quiet_of_same ((refuses_any _ _ _).mono (fun _ _ h=>⟨h.1,h.2.symm⟩))))
  go_wp2_with fail;go_ret;exact HC.out _ (below_drewN HN.out.2.2 _)
 ·have hv:ruleF b q need room 2=0:=by show (if M<b.clock+q.ttl then 172 else 0)=0;rw [if_neg e]
  have eI:decide ((1099511627776:Int)<(b.clock:Int)+(q.ttl:Int))=false:=by rw [decide_eq_false_iff_not];rw [hM] at e;omega
  rw [hv] at HC ⊢;clear N h hv;go_enter Tryz.func202,Tryz.ntmps202;go_wp2_with fail;go_quiet (first | (go_at_call 62;exact Calls.quiet_of_same ((HK.out _ (below_drewN HN.out.2.2 _)).mono (fun _ _ h=>⟨h.1,h.2.symm⟩))) | (go_at_call 220;exact Calls.quiet_of_same ((refuses_any _ _ _).mono (fun _ _ h=>⟨h.1,h.2.symm⟩))))
  go_wp2_with fail;go_ret;exact HC.out _ (below_drewN HN.out.2.2 _)
theorem rule3_any (p:Nat)(F:Nat→Prop)(K:Nat)(b:Bk)(q:Rq)(r:Rec)(room need:Nat)(w:World)(h:Bkk w p F K b)(hl:b.l.length=b.s):Calls Tryz.prog 203 #[.agg (askC p q r room)] w (CRule w p F K b (ruleF b q need room 3)):=by
 obtain ⟨W,hW⟩:∃W,w.alloc (.cells (askC p q r room) 291)=W:=⟨_,rfl⟩;have N:=new1 w (.cells (askC p q r room) 291);rw [hW] at N;unfold askC at *;obtain ⟨c0,_,c1,_,c2,_,c3,_,c4,_,c5,_,c6,_,c7,_,c8,_,c9,_,c10,_,c11,_⟩:=cells12 N.1;have HN:=hid N;have hAl:w.heap.size<W.heap.size:=by omega
 obtain ⟨X,hX⟩:∃X,atA b q.seat=X:=⟨_,rfl⟩;have HA:=hid (fun W' (hb:Below w.heap.size w W')=>kat p F K b q.seat W' (h.new hb));rw [hX] at HA;obtain ⟨⟨x0,x1,x2⟩,er⟩:=X;unfold boV at HA;dsimp only at HA;have HC:=hid (fun n W' (hb:Below w.heap.size w W')=>CRule.below (n:=n) h hb);have hv:ruleF b q need room 3=if er=0∧x0≠q.id then 170 else 0:=by
  show (if (b.l[q.seat]?.getD z).1≠0∧(b.l[q.seat]?.getD z).1≠q.id then 170 else 0)=_
  have hlen:=hl;unfold atA at hX;by_cases h1:b.s≤q.seat
  ·rw [if_pos h1] at hX;injection hX with h2 h3;rw [show b.l[q.seat]?=none by rw [List.getElem?_eq_none_iff];omega,if_neg (by intro hh;exact hh.1 rfl),if_neg (by omega)]
  ·rw [if_neg h1] at hX;by_cases h2:held b q.seat=true
   ·rw [if_pos h2] at hX;injection hX with h3 h4;rw [h3];unfold held at h2;rw [h3] at h2;have h5:x0≠0:=by simpa using h2
    subst h4;by_cases h6:x0=q.id
    ·rw [if_neg (fun hh=>hh.2 h6),if_neg (fun hh=>hh.2 h6)]
    ·rw [if_pos ⟨h5,h6⟩,if_pos ⟨rfl,h6⟩]
   ·rw [if_neg h2] at hX;injection hX with h3 h4;unfold held at h2;have h5:(b.l[q.seat]?.getD z).1=0:=by simpa using h2
    rw [if_neg (fun hh=>hh.1 h5),if_neg (by omega)]
 obtain ⟨W2,hW2⟩:∃W2:World→World,W2=fun w2=>w2.alloc (.cells #[.int .u32 x0,.int .i64 x1,.int .i64 x2] 160):=⟨_,rfl⟩
 rw [hv];clear N h hX hv;by_cases h0:er=0
 ·have h0I:(er:Int)=0:=by omega
  by_cases h9:x0=q.id
  ·rw [if_neg (fun hh=>hh.2 h9)];subst h9;go_enter Tryz.func203,Tryz.ntmps203;go_wp2_with fail;refine (HA.out _ HN.out.2.2).mono ?_;rintro e w2 ⟨rfl,hb2⟩;have N2:=new1 w2 (.cells #[.int .u32 q.id,.int .i64 x1,.int .i64 x2] 160);have hbw:Below w.heap.size w w2:=HN.out.2.2.trans (hb2.mono (Nat.le_of_lt hAl));have hb3:=hbw.trans (N2.2.2.mono hbw.size);have g3:=(hb2.cell (p:=⟨w.heap.size,3,none⟩) hAl).trans c3;have g3':=(N2.2.2.cell (p:=⟨w.heap.size,3,none⟩) (Nat.lt_of_lt_of_le hAl hb2.size)).trans g3;obtain ⟨v0,_,v1,_,v2,_⟩:=cells3 N2.1;have HB3:=hid hb3;clear hbw hb3 N2;go_wp2_with (go_at_call 220;refine (refuses_any _ _ _).mono ?_;rintro e w5 ⟨rfl,rfl⟩);go_ret;exact HC.out _ _ HB3.out
  ·have h9I:¬((x0:Int)=(q.id:Int)):=by omega
   rw [if_pos ⟨h0,h9⟩];go_enter Tryz.func203,Tryz.ntmps203;go_wp2_with fail;refine (HA.out _ HN.out.2.2).mono ?_;rintro e w2 ⟨rfl,hb2⟩;have N2:=new1 w2 (.cells #[.int .u32 x0,.int .i64 x1,.int .i64 x2] 160);have hbw:Below w.heap.size w w2:=HN.out.2.2.trans (hb2.mono (Nat.le_of_lt hAl));have hb3:=hbw.trans (N2.2.2.mono hbw.size);have g3:=(hb2.cell (p:=⟨w.heap.size,3,none⟩) hAl).trans c3;have g3':=(N2.2.2.cell (p:=⟨w.heap.size,3,none⟩) (Nat.lt_of_lt_of_le hAl hb2.size)).trans g3;obtain ⟨v0,_,v1,_,v2,_⟩:=cells3 N2.1;have HB3:=hid hb3;clear hbw hb3 N2;go_wp2_with (go_at_call 220;refine (refuses_any _ _ _).mono ?_;rintro e w5 ⟨rfl,rfl⟩);go_ret;exact HC.out _ _ HB3.out
 ·have h0I:¬((er:Int)=0):=by omega
  rw [if_neg (fun hh=>h0 hh.1)];go_enter Tryz.func203,Tryz.ntmps203;go_wp2_with fail;refine (HA.out _ HN.out.2.2).mono ?_;rintro e w2 ⟨rfl,hb2⟩;have N2:=new1 w2 (.cells #[.int .u32 x0,.int .i64 x1,.int .i64 x2] 160);have hbw:Below w.heap.size w w2:=HN.out.2.2.trans (hb2.mono (Nat.le_of_lt hAl));have hb3:=hbw.trans (N2.2.2.mono hbw.size);have g3:=(hb2.cell (p:=⟨w.heap.size,3,none⟩) hAl).trans c3;have g3':=(N2.2.2.cell (p:=⟨w.heap.size,3,none⟩) (Nat.lt_of_lt_of_le hAl hb2.size)).trans g3;obtain ⟨v0,_,v1,_,v2,_⟩:=cells3 N2.1;have HB3:=hid hb3;clear hbw hb3 N2;go_wp2_with (go_at_call 220;refine (refuses_any _ _ _).mono ?_;rintro e w5 ⟨rfl,rfl⟩);go_ret;exact HC.out _ _ HB3.out
end
section
open Go.RowKit
theorem size_zeroCells (n:Nat):(Builtin.zeroCells #[.int .u8 0] n).size = n:=by simp [Builtin.zeroCells]
theorem grow_any (n:Nat)(w:World)(h0:0<n)(hn:n≤1000000):
 Calls Tryz.prog 169 #[.slice none 0 0,.int .i64 n] w fun e w'=> ∃v',e = .returned v'∧w'.ownsRow w.heap.size 5 1 v' 0 []∧Below w.heap.size w w':=by
 have hb1:Tryz.t5.bytes=1:=rfl;have hq:¬9223372036854775807<(n:Int):=by omega
 have hq2:¬281474976710656<(n:Int):=by omega
 have hnc:¬281474976710656<Builtin.nextslicecap n 0:=by rw [nextslicecap_zero h0];omega
 have h1:¬((n:Int)<0):=by omega
 have h2:(0:Int)<(n:Int):=by omega
 go_enter Tryz.func169,Tryz.ntmps169;go_wp2_with fail;go_ret;have hge:=grownCap_ge w n 0 5;have hle:=grownCap_le_maxLen w n 0 5 (by unfold maxLen;omega);have hb:Below w.heap.size w (w.alloc (Obj.cells (Builtin.zeroCells #[.int .u8 0] n++Builtin.zeroCells #[.int .u8 0] (grownCap w n 0 5-n)) 5)).drew :=((Below.refl _ _).alloc (Nat.le_refl _) _).trans ⟨rfl,rfl,rfl,Nat.le_refl _,fun _ _=>rfl⟩;exact ⟨_,rfl,own_of_cells (w:=(w.alloc (Obj.cells (Builtin.zeroCells #[.int .u8 0] n++Builtin.zeroCells #[.int .u8 0] (grownCap w n 0 5-n)) 5)).drew) (heap_alloc_new w _) (Nat.le_refl _) (Nat.zero_le _) hle (by rw [Array.size_append,size_zeroCells,size_zeroCells];unfold grownCap at *;omega) rfl,hb⟩
theorem Sl_form {w:World}{v:Value}{l:List Nat}(h:Sl w v (Lb l))(h0:0<l.length):∃a c,v = .slice (some a) l.length c∧l.length≤c:=by
 obtain ⟨a,c,e,h1,_⟩:=Sl_partsB h;cases a with
 | none=>rw [e] at h;obtain ⟨_,e2,_⟩:=Sl_none h;omega
 | some a=>exact ⟨a,c,e,h1⟩
def lens (vs:List (Value×List Nat)):Nat:=(vs.flatMap (fun e=>e.2)).length
theorem flat_take {vs:List (Value×List Nat)}{k:Nat}{e:Value×List Nat}(h:vs[k]?=some e):(vs.take (k+1)).flatMap (fun e=>e.2)=(vs.take k).flatMap (fun e=>e.2)++e.2:=by
 have hk:=(List.getElem?_eq_some_iff.1 h).1;rw [List.take_succ_eq_append_getElem hk,(List.getElem?_eq_some_iff.1 h).2];simp
theorem lens_take {vs:List (Value×List Nat)}{k:Nat}{e:Value×List Nat}(h:vs[k]?=some e):lens (vs.take (k+1))=lens (vs.take k)+e.2.length:=by
 unfold lens;rw [flat_take h,List.length_append]
theorem lens_le (vs:List (Value×List Nat))(k:Nat):lens (vs.take k)≤lens vs:=by
 unfold lens;have e:(vs.flatMap (fun e=>e.2)).length = ((vs.take k++vs.drop k).flatMap (fun e=>e.2)).length :=by rw [List.take_append_drop]
 rw [e,List.flatMap_append,List.length_append];exact Nat.le_add_right _ _
theorem concat_any (L:Nat)(vs:List (Value×List Nat))(w:World)(hL:∀j e,vs[j]?=some e→w.cell? ⟨L,j,none⟩=some e.1)(hvs:∀e∈vs,Sl w e.1 (Lb e.2)∧ ∃a c,e.1 = .slice (some a) e.2.length c∧e.2.length≤c)(h0:0<lens vs)(hn:lens vs≤1000000)(hvl:vs.length≤1000):
 Calls Tryz.prog 128 #[.slice (some ⟨L,0,none⟩) vs.length vs.length] w fun e w'=> ∃v',e = .returned v'∧w'.ownsRow w.heap.size 5 1 v' (lens vs) (Lb (vs.flatMap (fun e=>e.2)))∧Below w.heap.size w w':=by
 have HL:=hid hL;have HV:=hid hvs;have H0:=hid h0;have HN:=hid hn;obtain ⟨i0,hi,hz0,hz1,hz2⟩:=info_parts info5;have HI:=hid hi;have HZ:=hid hz2;clear hL hvs h0 hn hi hz2;go_enter Tryz.func128,Tryz.ntmps128;go_wp2_with fail;go_loop [11,3] (fun i n=> ∃(k:Nat) (K:Int),k≤vs.length∧K=(k:Int)∧i = .int .i64 K∧n = .int .i64 (lens (vs.take k):Int)) (fun i _=>vs.length-(intOf i).toNat)
 case atStart=>exact ⟨0,0,by omega,rfl,rfl,by simp [lens]⟩
 case round=>
  obtain ⟨k,K,hk,hK,rfl,rfl⟩:=hrel;by_cases hlt:k<vs.length
  ·have hKlt:K<(vs.length:Int):=by omega
   obtain ⟨e,he⟩:∃e,vs[k]?=some e:=⟨vs[k],List.getElem?_eq_getElem hlt⟩;obtain ⟨hsl,a,c,ev,hac⟩:=HV.out e (List.mem_of_getElem? he);have hcell:=HL.out k e he;rw [ev] at hcell;have hle:=lens_le vs (k+1);have hN:=HN.out;rw [lens_take he] at hle;have HE:=hid he;have hb1:lens (vs.take k)≤1000000:=by omega
   have hb2:e.2.length≤1000000:=by omega
   have hb3:k<100000:=by omega
   clear he hsl ev hle hN;go_wp2;go_round
   case rel=>exact ⟨k+1,((k+1:Nat):Int),by omega,rfl,by simp,by rw [lens_take HE.out];simp⟩
   case measure=>simp [intOf];omega
  ·have hKlt:¬K<(vs.length:Int):=by omega
   have hke:k=vs.length:=by omega
   have htk:vs.take k=vs:=by rw [hke];exact List.take_length
   rw [htk];have h0:=H0.out;have hN:=HN.out;go_wp2_with fail;refine (grow_any (lens vs) w h0 hN).mono ?_;rintro o w1 ⟨v1,rfl,hown,hb⟩;have HO:=hid hown;have HB:=hid hb;clear hown hb;go_wp2_with fail;go_loopw [27,6] (fun i v wi=> ∃(k:Nat) (K:Int),k≤vs.length∧K=(k:Int)∧i = .int .i64 K∧wi.ownsRow w.heap.size 5 1 v (lens (vs.take k)) (Lb ((vs.take k).flatMap (fun e=>e.2)))∧Below w.heap.size w wi) (fun i _ _=>vs.length-(intOf i).toNat)
   case atStart=>exact ⟨0,0,by omega,rfl,rfl,HO.out,HB.out⟩
   case round=>
    obtain ⟨q,Q9,hq,hQ,rfl,hO,hB⟩:=hrel;have HO9:=hid hO;have HB9:=hid hB;obtain ⟨oa,oc,rfl,_,_⟩:=own_form hO;clear hO hB;by_cases hlt2:q<vs.length
    ·have hQlt:Q9<(vs.length:Int):=by omega
     obtain ⟨e,he⟩:∃e,vs[q]?=some e:=⟨vs[q],List.getElem?_eq_getElem hlt2⟩;obtain ⟨hsl,a,c,ev,hac⟩:=HV.out e (List.mem_of_getElem? he);have hLlt:L<w.heap.size:=World.block_lt_of_cell? w ⟨L,q,none⟩ (HL.out q e he);have hcell:wr.cell? ⟨L,q,none⟩=some e.1:=(HB9.out.cell (p:=⟨L,q,none⟩) hLlt).trans (HL.out q e he);have hsl2:=Sl_below hsl HB9.out (Nat.le_refl _);rw [ev] at hcell hsl2;have HNW:=hid (Sl_news hsl2);have hle:=lens_le vs (q+1);rw [lens_take he] at hle;have HE:=hid he;have HLE:=hid (show lens (vs.take q)+e.2.length≤1000000 by omega);have HLb:=hid (Lb_len e.2);have hb3:q<100000:=by omega
     have HBS:=hid HB9.out.size;clear he hsl hsl2 hle hLlt;go_wp2_with (at_builtin;refine wpList_append_own _ rfl _ _ 34 rfl w.heap.size 5 i0 (.int .u8 0) 1 1 Tryz.underlying34 HI.out hz0 hz1 HZ.out rfl (by decide) _ (lens (vs.take q)) _ rfl HO9.out a e.2.length c (Lb e.2) rfl (by rw [HLb.out];omega) HNW.out (Lb_one e.2) (by have:=HLE.out;unfold maxLen;omega) (by have:=HLE.out;omega) HBS.out ?_;intro v4 w4 hown hgrow _;have HO4:=hid hown;have HG4:=hid hgrow;clear hown hgrow);go_roundw;case rel=>
      refine ⟨q+1,((q+1:Nat):Int),by omega,rfl,by simp,?_,?_⟩
      ·rw [lens_take HE.out,flat_take HE.out,Lb_app];exact HO4.out
      ·exact HB9.out.grown HG4.out HBS.out (fun k hk=>(HO9.out.lt k hk).1)
     case measure=>simp [intOf];omega
    ·have hQlt:¬Q9<(vs.length:Int):=by omega
     have hqe:q=vs.length:=by omega
     have htk:vs.take q=vs:=by rw [hqe];exact List.take_length
     have hO:=HO9.out;rw [htk] at hO;have HOF:=hid hO;clear hO;go_wp2_with fail;go_ret;exact ⟨_,rfl,by rw [←htk];exact HO9.out,HB9.out⟩
end
end Go.Proofs.YtdjiopacieadpaaGreatDoor
namespace FlatPlain
section
def cut (B:List Nat)(p n:Nat):List Nat:=(B.drop p).take n
def patch (B:List Nat)(p:Nat)(b:List Nat):List Nat:=B.take p++b++B.drop (p+b.length)
theorem cut_len {B:List Nat}{p n:Nat}(h:p+n≤B.length):(cut B p n).length = n:=by
 unfold cut;rw [List.length_take,List.length_drop];omega
theorem cut_get {B:List Nat}{p n i:Nat}(h:i<n):(cut B p n)[i]?=B[p+i]? :=by
 unfold cut;rw [List.getElem?_take,if_pos h,List.getElem?_drop]
theorem cut_add (B:List Nat)(p m n:Nat):cut B p (m+n)=cut B p m++cut B (p+m) n:=by
 unfold cut;rw [List.take_add,List.drop_drop]
theorem cut_cut {B:List Nat}{p n q m:Nat}(h:q+m≤n):cut (cut B p n) q m=cut B (p+q) m:=by
 unfold cut;rw [List.drop_take,List.take_take,List.drop_drop,Nat.min_eq_left (by omega)]
theorem cut_zero (B:List Nat)(p:Nat):cut B p 0=[]:=rfl
theorem patch_len {B b:List Nat}{p:Nat}(h:p+b.length≤B.length):(patch B p b).length = B.length:=by
 unfold patch;simp;omega
theorem patch_get {B b:List Nat}{p:Nat}(h:p+b.length≤B.length)(i:Nat):(patch B p b)[i]?=if p≤i∧i<p+b.length then b[i-p]? else B[i]? :=by
 have hl:(B.take p).length = p:=by rw [List.length_take];omega
 unfold patch;by_cases h1:i<p
 ·rw [if_neg (by omega),List.getElem?_append_left (by rw [List.length_append,hl];omega),List.getElem?_append_left (by rw [hl];exact h1),List.getElem?_take,if_pos h1]
 ·by_cases h2:i<p+b.length
  ·rw [if_pos ⟨by omega,h2⟩,List.getElem?_append_left (by rw [List.length_append,hl];exact h2),List.getElem?_append_right (by rw [hl];omega),hl]
  ·rw [if_neg (by omega),List.getElem?_append_right (by rw [List.length_append,hl];omega),List.length_append,hl,List.getElem?_drop];congr 1;omega
theorem patch_nil (B:List Nat)(p:Nat):patch B p []=B:=by unfold patch;simp
theorem patch_patch {B b c:List Nat}{p:Nat}(h:p+b.length+c.length≤B.length):patch (patch B p b) (p+b.length) c=patch B p (b++c):=by
 have h1:(patch B p b).length = B.length:=patch_len (by omega);apply List.ext_getElem?;intro i;have hbc:(b++c).length = b.length+c.length:=List.length_append;rw [patch_get (by rw [h1];exact h),patch_get (B:=B) (b:=b) (by omega),patch_get (B:=B) (b:=b++c) (by omega),hbc];by_cases h2:i<p
 ·rw [if_neg (by omega),if_neg (by omega),if_neg (by omega)]
 ·by_cases h3:i<p+b.length
  ·rw [if_neg (by omega),if_pos (by omega),if_pos (by omega),List.getElem?_append_left (by omega)]
  ·by_cases h4:i<p+b.length+c.length
   ·rw [if_pos (by omega),if_pos (by omega),List.getElem?_append_right (by omega)];congr 1;omega
   ·rw [if_neg (by omega),if_neg (by omega),if_neg (by omega)]
theorem cut_patch_same {B b:List Nat}{p:Nat}(h:p+b.length≤B.length):cut (patch B p b) p b.length=b:=by
 apply List.ext_getElem?;intro i;by_cases hi:i<b.length
 ·rw [cut_get hi,patch_get h,if_pos (by omega)];congr 1;omega
 ·rw [List.getElem?_eq_none (by rw [cut_len (by rw [patch_len h];exact h)];omega),List.getElem?_eq_none (by omega)]
theorem cut_patch_other {B b:List Nat}{p q n:Nat}(h:p+b.length≤B.length)(hq:q+n≤p∨p+b.length≤q):cut (patch B p b) q n=cut B q n:=by
 apply List.ext_getElem?;intro i;by_cases hi:i<n
 ·rw [cut_get hi,cut_get hi,patch_get h,if_neg (by omega)]
 ·unfold cut;rw [List.getElem?_take,List.getElem?_take,if_neg hi,if_neg hi]
theorem cut_patch_in {B b:List Nat}{p q n:Nat}(h:p+b.length≤B.length)(hq:q≤p)(hn:p+b.length≤q+n)(hB:q+n≤B.length):cut (patch B p b) q n=patch (cut B q n) (p-q) b:=by
 apply List.ext_getElem?;intro i;have hc:(cut B q n).length = n:=cut_len hB;rw [patch_get (by rw [hc];omega)];by_cases hi:i<n
 ·rw [cut_get hi,patch_get h];by_cases h2:p≤q+i∧q+i<p+b.length
  ·rw [if_pos h2,if_pos (by omega)];congr 1;omega
  ·rw [if_neg h2,if_neg (by omega),cut_get hi]
 ·rw [if_neg (by omega),List.getElem?_eq_none (by rw [cut_len (by rw [patch_len h];exact hB)];omega),List.getElem?_eq_none (by rw [hc];omega)]
theorem flat_len {z:Nat}:∀(l:List (List Nat)),(∀x∈l,x.length=z)→l.flatten.length=l.length*z
 | [],_=>by simp
 | x::l,h=>by
  rw [List.flatten_cons,List.length_append,flat_len l (fun y hy=>h y (List.mem_cons_of_mem _ hy)),h x (List.mem_cons_self ..),List.length_cons,Nat.succ_mul];omega
theorem flat_cut {z:Nat}:∀(l:List (List Nat)) (i:Nat) (x:List Nat),(∀x∈l,x.length=z)→l[i]?=some x→cut l.flatten (i*z) z=x
 | [],i,x,_,h=>by cases h
 | y::l,0,x,h,hi=>by
  have e:y=x:=by simpa using hi
  subst e;have hy:=h y (List.mem_cons_self ..);unfold cut;rw [Nat.zero_mul,List.drop_zero,List.flatten_cons,List.take_append_of_le_length (by omega),List.take_of_length_le (by omega)]
 | y::l,i+1,x,h,hi=>by
  have hy:=h y (List.mem_cons_self ..);have ih:=flat_cut l i x (fun y hy=>h y (List.mem_cons_of_mem _ hy)) (by simpa using hi);unfold cut at ih ⊢;rw [List.flatten_cons,show (i+1)*z=y.length+i*z from by rw [hy,Nat.succ_mul];omega,←List.drop_drop,List.drop_append_of_le_length (Nat.le_refl _),List.drop_length,List.nil_append];exact ih
theorem flat_set {z:Nat}:∀(l:List (List Nat)) (i:Nat) (x:List Nat),(∀x∈l,x.length=z)→i<l.length→x.length=z→(l.set i x).flatten = patch l.flatten (i*z) x
 | [],i,x,_,h,_=>by simp at h
 | y::l,0,x,h,hi,hx=>by
  have hy:=h y (List.mem_cons_self ..);unfold patch;rw [List.set_cons_zero,List.flatten_cons,List.flatten_cons,Nat.zero_mul,List.take_zero,List.nil_append,Nat.zero_add,hx,←hy,List.drop_append_of_le_length (Nat.le_refl _),List.drop_length,List.nil_append]
 | y::l,i+1,x,h,hi,hx=>by
  have hy:=h y (List.mem_cons_self ..);have ih:=flat_set l i x (fun y hy=>h y (List.mem_cons_of_mem _ hy)) (by simpa using hi) hx;unfold patch at ih ⊢;rw [List.set_cons_succ,List.flatten_cons,ih,List.flatten_cons,show (i+1)*z=y.length+i*z from by rw [hy,Nat.succ_mul];omega,List.take_append,List.drop_append];generalize i*z=q;rw [List.take_of_length_le (by omega:y.length≤y.length+q),List.drop_eq_nil_of_le (by omega:y.length≤y.length+q+x.length),show y.length+q-y.length=q from by omega,show y.length+q+x.length-y.length=q+x.length from by omega];simp
end
end FlatPlain
