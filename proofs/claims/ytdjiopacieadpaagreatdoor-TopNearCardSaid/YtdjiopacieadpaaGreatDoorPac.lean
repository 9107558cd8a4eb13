/- TopNear: part Pac: FrameGet ScP HashBits HashPlain Hash IdxPlain Geo. -/
import Derived.Test.YtdjiopacieadpaaGreatDoorPab
set_option linter.unusedVariables false
set_option linter.unusedSimpArgs false
set_option maxRecDepth 8000
set_option maxHeartbeats 8000000
namespace Go.Proofs.YtdjiopacieadpaaGreatDoor
section
open Go.RowKit
def bl (b:List Nat):Nat:=ofLe (b.take 2)
def goodF (b:List Nat):Prop:=2≤b.length∧bl b≤32∧22+bl b≤b.length∧ofLe ((b.drop (18+bl b)).take 4)=crcF (b.take (18+bl b))
theorem tkE_ok {l:List Nat}{e n:Nat}:tkE l e n=0↔e=0∧n≤l.length:=by
 unfold tkE;split
 ·split<;>simp_all
 ·simp_all
theorem tkB_ok {l:List Nat}{n:Nat}(h:n≤l.length):tkB l 0 n=l.take n:=by unfold tkB;rw [if_pos ⟨rfl,h⟩]
theorem tkL_ok {l:List Nat}{n:Nat}(h:n≤l.length):tkL l 0 n=l.drop n:=by unfold tkL;rw [if_pos rfl,if_pos h]
theorem takings {l:List Nat}{B l3 e3 l4 e4 l5 e5:_}(h3:tkL l 0 8=l3)(g3:tkE l 0 8=e3)(h4:tkL l3 e3 8=l4)(g4:tkE l3 e3 8=e4)(h5:tkL l4 e4 B=l5)(g5:tkE l4 e4 B=e5):
 (tkE l5 e5 4=0↔20+B≤l.length)∧(20+B≤l.length→tkB l 0 8=l.take 8∧tkB l3 e3 8=(l.drop 8).take 8∧tkB l4 e4 B=(l.drop 16).take B∧tkB l5 e5 4=(l.drop (16+B)).take 4):=by
 have key:20+B≤l.length→e5=0∧e4=0∧e3=0∧l3=l.drop 8∧l4=l.drop 16∧l5=l.drop (16+B):=by
  intro h;have a3:l3=l.drop 8:=by rw [←h3,tkL_ok (by omega)]
  have b3:e3=0:=by rw [←g3];exact tkE_ok.2 ⟨rfl,by omega⟩
  have a4:l4=l.drop 16:=by rw [←h4,b3,a3,tkL_ok (by rw [List.length_drop];omega),List.drop_drop]
  have b4:e4=0:=by rw [←g4,b3];exact tkE_ok.2 ⟨rfl,by rw [a3,List.length_drop];omega⟩
  have a5:l5=l.drop (16+B):=by rw [←h5,b4,a4,tkL_ok (by rw [List.length_drop];omega),List.drop_drop]
  have b5:e5=0:=by rw [←g5,b4];exact tkE_ok.2 ⟨rfl,by rw [a4,List.length_drop];omega⟩
  exact ⟨b5,b4,b3,a3,a4,a5⟩
 refine ⟨⟨fun h=>?_,fun h=>?_⟩,fun h=>?_⟩
 ·obtain ⟨z5,n5⟩:=tkE_ok.1 h;rw [←g5] at z5;obtain ⟨z4,n4⟩:=tkE_ok.1 z5;have w4:=z4;rw [←g4] at z4;obtain ⟨z3,n3⟩:=tkE_ok.1 z4;have w3:=z3;rw [←g3] at z3;obtain ⟨_,n2⟩:=tkE_ok.1 z3;have a3:l3=l.drop 8:=by rw [←h3,tkL_ok (by omega)]
  rw [a3,List.length_drop] at n3;have a4:l4=l.drop 16:=by rw [←h4,w3,a3,tkL_ok (by rw [List.length_drop];omega),List.drop_drop]
  rw [a4,List.length_drop] at n4;have a5:l5=l.drop (16+B):=by rw [←h5,w4,a4,tkL_ok (by rw [List.length_drop];omega),List.drop_drop]
  rw [a5,List.length_drop] at n5;omega
 ·obtain ⟨b5,b4,b3,a3,a4,a5⟩:=key h;exact tkE_ok.2 ⟨b5,by rw [a5,List.length_drop];omega⟩
 ·obtain ⟨b5,b4,b3,a3,a4,a5⟩:=key h;rw [b5,b4,b3,a3,a4,a5];exact ⟨tkB_ok (by omega),tkB_ok (by rw [List.length_drop];omega),tkB_ok (by rw [List.length_drop];omega),tkB_ok (by rw [List.length_drop];omega)⟩
theorem fpiece {b:List Nat}{m i n:Nat}(h:2+i+n≤m):(((b.take m).drop 2).drop i).take n=(b.drop (2+i)).take n:=by
 rw [List.drop_drop,List.drop_take,List.take_take,Nat.min_eq_left (by omega)]
theorem fget_any (v:Value)(b:List Nat)(w:World)(hv:Sl w v (Lb b))(hbs:Bs b)(hT:Tab w)(hl:b.length≤1000000):
 Calls Tryz.prog 188 #[v] w fun o w'=> ∃F n,∃e:Int,o = .returned (.tuple #[.agg F,.int .i64 n,.int .i64 e])∧Below w.heap.size w w'∧
  ((goodF b∧e=0∧n=((22+bl b:Nat):Int)∧ ∃bv,F=#[.int .u64 (ofLe ((b.drop 2).take 8):Int),.int .u64 (ofLe ((b.drop 10).take 8):Int),bv]∧w'.ownsRow w.heap.size 5 1 bv (bl b) (Lb ((b.drop 18).take (bl b))))∨(¬goodF b∧e≠0∧F=#[.int .u64 0,.int .u64 0,.slice none 0 0])):=by
 obtain ⟨a,c,rfl,hc,hcm⟩:=Sl_partsB hv;obtain ⟨m,hm⟩:∃m,min b.length 54=m:=⟨_,rfl⟩;have hmi:(if (54:Int)<(b.length:Int) then (54:Int) else (b.length:Int))=(m:Int):=by split<;>omega
 have HMI:=hid hmi;have HV:=hid hv;have HBS:=hid hbs;have HT:=hid hT;have hmb:m≤b.length:=by omega
 have hm54:m≤54:=by omega
 have hmI:(m:Int)≤(c:Int):=by omega
 have HMM:=hid hm;clear hmi hv hbs hT hm;go_enter Tryz.func188,Tryz.ntmps188;go_wp2_with (refine wpList_min2 rfl _ _ rfl (b.length:Int) (54:Int) (m:Int) rfl rfl HMI.out ?_);have hR0:(w.alloc (.cells #[.int .u64 0,.int .u64 0,.slice none 0 0] 220)).heap[w.heap.size]?=some (.cells #[.int .u64 0,.int .u64 0,.slice none 0 0] 220 (0,0)):=heap_alloc_new w _;have hb0:=(Below.refl w.heap.size w).alloc (Nat.le_refl _) (.cells #[.int .u64 0,.int .u64 0,.slice none 0 0] 220);have hs0:(w.alloc (.cells #[.int .u64 0,.int .u64 0,.slice none 0 0] 220)).heap.size = w.heap.size+1:=by simp
 obtain ⟨w0,hw0⟩:∃w0,w.alloc (.cells #[.int .u64 0,.int .u64 0,.slice none 0 0] 220)=w0:=⟨_,rfl⟩;rw [hw0] at hR0 hb0 hs0 ⊢;have HR0:=hid hR0;have HB0:=hid hb0;have HS0:=hid hs0;have HV0:=hid (Sl_below HV.out hb0 (Nat.le_refl _));have HT0:=hid (HT.out.below hb0 HT.out.size);clear hR0 hb0 hs0 hw0;refine (of_any _ (b.take m) _ (by rw [←Lb_take];exact Sl_pre HV0.out (by rw [Lb_len];exact hmb)) (by rw [List.length_take];omega)).mono ?_;rintro o w1 ⟨r,q,rfl,h1,hr,hq,h2⟩;rw [HS0.out] at hr hq;have hlen:(b.take m).length = m:=by rw [List.length_take];omega
 obtain ⟨l0,hl0⟩:∃l0,b.take m=l0:=⟨_,rfl⟩;rw [hl0] at h1 hlen;have HL0:=hid hl0;have HRD1:=hid h1;have HB1:=hid h2;have HK1:=hid (show Kp (· = q) w0 w1 from Kp.of_below h2 (Nat.le_refl _));have HBL0:=hid (show Bs l0 from fun x hx=>HBS.out x (List.mem_of_mem_take (by rw [hl0];exact hx)));have HQ:=hid hq;clear h1 h2 hl0 hq hr;have res0:∀w2:World,Kp (· = q) w0 w2→w2.heap[w.heap.size]?=some (.cells #[.int .u64 0,.int .u64 0,.slice none 0 0] 220 (0,0)):=fun w2 hk=>(hk.block w.heap.size (by rw [HS0.out];omega) (by have:=HQ.out;omega)).trans HR0.out
 have bel0:∀w2:World,Kp (· = q) w0 w2→Below w.heap.size w w2:=fun w2 hk=>HB0.out.trans (hk.below (B:=w.heap.size) HB0.out.size (fun i hi=>by have:=HQ.out;omega))
 have RES0:=hid res0;have BEL0:=hid bel0;clear res0 bel0;go_wp2_with fail;refine (rtwo_any r q l0 0 _ HRD1.out HBL0.out).mono ?_;rintro o w2 ⟨rfl,h1,h2⟩;have HRD2:=hid h1;have HK2:=hid (HK1.out.trans h2);clear h1 h2;have hV:ofLe (tkB l0 0 2)<65536:=by
  have h1:=ofLe_lt (tk_bytes HBL0.out 0 2).1;have h2:(256:Nat) ^ (tkB l0 0 2).length ≤256 ^ 2:=Nat.pow_le_pow_right (by omega) (tk_bytes HBL0.out 0 2).2.2;have h3:(256:Nat) ^ 2=65536:=by decide
  omega
 obtain ⟨B,hB⟩:∃B,ofLe (tkB l0 0 2)=B:=⟨_,rfl⟩;rw [hB] at hV ⊢;have hwB:IntKind.i64.wrap (B:Int)=(B:Int):=by rw [IntKind.wrap_i64];omega
 have HB2:=hid hB;clear hB;go_wp2_with fail;refine (rerr_any r q _ _ _ HRD2.out).mono ?_;rintro o w5 ⟨rfl,hw⟩;obtain rfl:=hw;have HW2:=hid (show w.heap.size≤w.heap.size from Nat.le_refl _);by_cases hm2:2≤m
 ·have hE:tkE l0 0 2=0:=tkE_ok.2 ⟨rfl,by omega⟩;rw [hE] at HRD2 ⊢;have HBB:=hid (show bl b=B by rw [←HB2.out,tkB_ok (by omega),←HL0.out,List.take_take,Nat.min_eq_left hm2];rfl);have hL:tkL l0 0 2=l0.drop 2:=tkL_ok (by omega);rw [hL] at HRD2;clear hE hL;have HBL2:=hid (show Bs (l0.drop 2) from fun x hx=>HBL0.out x (List.mem_of_mem_drop hx));by_cases hb32:B≤32
  ·have hb33:¬(32:Int)<(B:Int):=by omega
   go_wp2_with fail;refine (reight_any r q _ _ _ HRD2.out HBL2.out).mono ?_;rintro o w3 ⟨rfl,h1,h2⟩;have HRD3:=hid h1;have HK3:=hid (HK2.out.trans h2);have HBL3:=hid (tk_bytes HBL2.out 0 8).2.1;clear h1 h2;obtain ⟨EP,hEP⟩:∃EP,ofLe (tkB (l0.drop 2) 0 8)=EP:=⟨_,rfl⟩;rw [hEP];have HEP:=hid hEP;clear hEP;go_wp2_with fail;refine (reight_any r q _ _ _ HRD3.out HBL3.out).mono ?_;rintro o w4 ⟨rfl,h1,h2⟩;have HRD4:=hid h1;have HK4:=hid (HK3.out.trans h2);have HBL4:=hid (tk_bytes HBL3.out (tkE (l0.drop 2) 0 8) 8).2.1;clear h1 h2;obtain ⟨l3,hl3⟩:∃l3,tkL (l0.drop 2) 0 8=l3:=⟨_,rfl⟩;obtain ⟨e3,he3⟩:∃e3,tkE (l0.drop 2) 0 8=e3:=⟨_,rfl⟩;rw [hl3,he3] at HRD4 HBL4 ⊢;obtain ⟨SQ,hSQ⟩:∃SQ,ofLe (tkB l3 e3 8)=SQ:=⟨_,rfl⟩;rw [hSQ];obtain ⟨l4,hl4⟩:∃l4,tkL l3 e3 8=l4:=⟨_,rfl⟩;obtain ⟨e4,he4⟩:∃e4,tkE l3 e3 8=e4:=⟨_,rfl⟩;rw [hl4] at HRD4 HBL4;rw [he4] at HRD4;have HL3:=hid hl3;have HE3:=hid he3;have HSQ:=hid hSQ;have HL4:=hid hl4;have HE4:=hid he4;clear hl3 he3 hSQ hl4 he4;go_wp2_with fail;refine (rtake_any r q l4 e4 B _ HRD4.out (by omega)).mono ?_;rintro o w5 ⟨v5,rfl,h0,h1,h2⟩;obtain ⟨va,vc,rfl,_,_⟩:=own_form h0;have HOB:=hid (show ∀k,(Value.slice va (tkB l4 e4 B).length vc).ownBlock = some k→k≠q∧k≠w.heap.size from fun k hk=>by have h8:=(h0.lt k hk).1;have h9:=HRD4.out.2.2.lt;have h7:=HQ.out;omega);have HO5:=hid (own_mono (base':=w.heap.size) h0 (by have:=(BEL0.out _ HK4.out).size;omega));have HRD5:=hid h1;have HK5:=hid (HK4.out.trans h2);have HBL5:=hid (tk_bytes HBL4.out e4 B).2.1;clear h0 h1 h2;go_wp2_with fail;have hG:=heap_alloc_new w5 (.cells #[.int .u64 EP,.int .u64 SQ,.slice va (tkB l4 e4 B).length vc] 220);have hb6:=(Below.refl w5.heap.size w5).alloc (Nat.le_refl _) (.cells #[.int .u64 EP,.int .u64 SQ,.slice va (tkB l4 e4 B).length vc] 220);have hs6:(w5.alloc (.cells #[.int .u64 EP,.int .u64 SQ,.slice va (tkB l4 e4 B).length vc] 220)).heap.size = w5.heap.size+1:=by simp
   obtain ⟨w6,hw6⟩:∃w6,w5.alloc (.cells #[.int .u64 EP,.int .u64 SQ,.slice va (tkB l4 e4 B).length vc] 220)=w6:=⟨_,rfl⟩;rw [hw6] at hG hb6 hs6 ⊢;have HG:=hid hG;have HS6:=hid hs6;have HRD6:=hid (HRD5.out.below hb6 (Nat.le_refl _));have HK6:=hid (HK5.out.trans (Kp.of_below hb6 (Nat.le_refl _)));have HO6:=hid (own_below HO5.out hb6 (Nat.le_refl _));have HQ5:=hid (show q<w5.heap.size from HRD5.out.2.2.lt);clear hG hb6 hs6 hw6;obtain ⟨l5,hl5⟩:∃l5,tkL l4 e4 B=l5:=⟨_,rfl⟩;obtain ⟨e5,he5⟩:∃e5,tkE l4 e4 B=e5:=⟨_,rfl⟩;rw [hl5] at HRD6 HBL5;rw [he5] at HRD6;have HTK:=hid (takings HL3.out HE3.out HL4.out HE4.out hl5 he5);clear hl5 he5;refine (rfour_any r q l5 e5 _ HRD6.out HBL5.out).mono ?_;rintro o w7 ⟨rfl,h1,h2⟩;have HRD7:=hid h1;have HK7:=hid (HK6.out.trans h2);have HG7:=hid ((h2.block w5.heap.size (by rw [HS6.out];omega) (by have:=HQ5.out;omega)).trans HG.out);have HO7:=hid (own_kp HO6.out h2 (fun k hk=>(HOB.out k hk).1));clear h1 h2;have hw22:IntKind.i64.wrap (22+(B:Int))=((22+B:Nat):Int):=by rw [IntKind.wrap_i64];omega
   have hw18:IntKind.i64.wrap (((22+B:Nat):Int)-4)=((18+B:Nat):Int):=by rw [IntKind.wrap_i64];omega
   have hB0:¬(B:Int)<0:=by omega
   obtain ⟨SM,hSM⟩:∃SM,ofLe (tkB l5 e5 4)=SM:=⟨_,rfl⟩;rw [hSM];have HSM:=hid hSM;clear hSM;have hR:=RES0.out _ HK7.out;have HR:=hid hR;obtain ⟨kc,kf,_⟩:=blk hR;have c0:=kc 0;have c1:=kc 1;have c2:=kc 2;have f0:=kf 0;have f1:=kf 1;have f2:=kf 2;clear kc kf hR;by_cases he6:tkE l5 e5 4=0
   ·rw [he6] at HRD7;have h22:=HTK.out.1.1 he6;have hvals:=HTK.out.2 h22;rw [List.length_drop] at h22;have hmm:22+B≤m:=by rw [←hlen];omega
    have HV4:=hid hvals;have HMB:=hid hmm;have hbb:22+B≤b.length:=by omega
    clear he6 hvals h22;have hcI:((18+B:Nat):Int)≤(c:Int):=by omega
    have h18:¬((18+B:Nat):Int)<0:=by omega
    have HBEL:=hid (BEL0.out _ HK7.out);have HSL:=hid (show Sl w7 (.slice a (18+B) c) (Lb (b.take (18+B))) by rw [←Lb_take];exact Sl_pre (Sl_below HV.out HBEL.out (Nat.le_refl _)) (by rw [Lb_len];omega));go_wp2_with (first | (go_at_call 82;refine (rerr_any r q _ _ _ HRD7.out).mono ?_;rintro o w9 ⟨rfl,hw⟩;obtain rfl:=hw) | (go_at_call 154;go_in));rw [show 22+B-4=18+B from by omega];refine (sum_any _ (b.take (18+B)) _ HSL.out (fun x hx=>HBS.out x (List.mem_of_mem_take hx)) (HT.out.below HBEL.out HT.out.size)).mono ?_;rintro o w9 ⟨rfl,hw⟩;obtain rfl:=hw;have hlt:=crcF_lt (b.take (18+B));obtain ⟨C,hC⟩:∃C,crcF (b.take (18+B))=C:=⟨_,rfl⟩;rw [hC] at hlt ⊢;have HC:=hid hC;have hS4:SM=ofLe ((b.drop (18+B)).take 4):=by
     rw [←HSM.out,HV4.out.2.2.2,←HL0.out,fpiece (by omega),show 2+(16+B)=18+B from by omega]
    have HS4:=hid hS4;clear hC hS4;by_cases hs:SM=C
    ·subst hs;have hG7:=HG7.out;obtain ⟨gc,_,_⟩:=blk hG7;have g0:=gc 0;have g1:=gc 1;have g2:=gc 2;clear gc hG7;go_wp2_with fail;(try simp only [Exit.inBlock,Exit.then])
     refine bodyPost_ret (results_row3 rfl _ _ _ _ _ _ _ rfl (set3 HR.out) Tryz.underlying220 rfl (by kernel_rfl)) rfl ?_;have hob:(Value.slice va (tkB l4 e4 B).length vc).ownBlock ≠some w.heap.size:=fun hk=>(HOB.out _ hk).2 rfl
     have ho:=own_other (own_other (own_other HO7.out (p:=⟨w.heap.size,0,none⟩) hob (.int .u64 EP)) (p:=⟨w.heap.size,1,none⟩) hob (.int .u64 SQ)) (p:=⟨w.heap.size,2,none⟩) hob (.slice va (tkB l4 e4 B).length vc);have hbody:tkB l4 e4 B=(b.drop 18).take B:=by rw [HV4.out.2.2.1,←HL0.out,fpiece (by omega)]
     have hblen:(tkB l4 e4 B).length = B:=by rw [hbody,List.length_take,List.length_drop];omega
     have e1:EP=ofLe ((b.drop 2).take 8):=by
      have h9:=fpiece (b:=b) (m:=m) (i:=0) (n:=8) (by omega);rw [List.drop_zero] at h9;rw [←HEP.out,HV4.out.1,←HL0.out,h9]
     have e2:SQ=ofLe ((b.drop 10).take 8):=by rw [←HSQ.out,HV4.out.2.1,←HL0.out,fpiece (by omega)]
     refine ⟨_,_,_,rfl,below_set3 HBEL.out (Nat.le_refl _) _ _ _,Or.inl ⟨⟨by omega,by rw [HBB.out];exact hb32,by rw [HBB.out];exact hbb,by rw [HBB.out,HC.out,HS4.out]⟩,rfl,?_,_,by rw [←e1,←e2],?_⟩⟩
     ·rw [HBB.out];push_cast;rfl
     ·rw [HBB.out];rw [hblen,hbody] at ho;rw [hblen];exact ho
    ·have hs':¬(SM:Int)=(C:Int):=by omega
     have hsb:((SM:Int) == (C:Int))=false:=by rw [beq_eq_false_iff_ne];omega
     go_wp2_with fail;(try simp only [Exit.inBlock,Exit.then])
     refine bodyPost_ret (results_row3 rfl _ _ _ _ _ _ _ rfl (set3 HR.out) Tryz.underlying220 rfl (by kernel_rfl)) rfl ?_;exact ⟨_,_,_,rfl,below_set3 HBEL.out (Nat.le_refl _) _ _ _,Or.inr ⟨fun hg=>hs (by
      have h9:=hg.2.2.2;rw [HBB.out,HC.out] at h9;rw [HS4.out];exact h9),by decide,rfl⟩⟩
   ·obtain ⟨E6,hE6⟩:∃E6,tkE l5 e5 4=E6:=⟨_,rfl⟩;rw [hE6] at HRD7 he6;have he6':¬(E6:Int)=0:=by omega
    have HE6:=hid hE6;clear hE6 he6;go_wp2_with (first | (go_at_call 82;refine (rerr_any r q _ _ _ HRD7.out).mono ?_;rintro o w9 ⟨rfl,hw⟩;obtain rfl:=hw) | go_in);(try simp only [Exit.inBlock,Exit.then])
    refine bodyPost_ret (results_row3 rfl _ _ _ _ _ _ _ rfl (set3 HR.out) Tryz.underlying220 rfl (by kernel_rfl)) rfl ?_;exact ⟨_,_,_,rfl,below_set3 (BEL0.out _ HK7.out) (Nat.le_refl _) _ _ _,Or.inr ⟨fun hg=>by
     have h9:=hg.2.2.1;rw [HBB.out] at h9;have h8:tkE l5 e5 4=0:=HTK.out.1.2 (by rw [List.length_drop,hlen];have:=HMM.out;omega);rw [HE6.out] at h8;omega,by decide,rfl⟩⟩
  ·have hb33:(32:Int)<(B:Int):=by omega
   have hR:=RES0.out _ HK2.out;have HR:=hid hR;obtain ⟨kc,kf,_⟩:=blk hR;have c0:=kc 0;have c1:=kc 1;have c2:=kc 2;have f0:=kf 0;have f1:=kf 1;have f2:=kf 2;clear kc kf hR;go_wp2_with fail;(try simp only [Exit.inBlock,Exit.then])
   refine bodyPost_ret (results_row3 rfl _ _ _ _ _ _ _ rfl (set3 HR.out) Tryz.underlying220 rfl (by kernel_rfl)) rfl ?_;exact ⟨_,_,_,rfl,below_set3 (BEL0.out _ HK2.out) (Nat.le_refl _) _ _ _,Or.inr ⟨fun hg=>hb32 (by rw [←HBB.out];exact hg.2.1),by decide,rfl⟩⟩
 ·have hE:tkE l0 0 2=4:=by unfold tkE;rw [if_pos rfl,if_neg (by omega)]
  rw [hE] at HRD2 ⊢;clear hE;have hR:=RES0.out _ HK2.out;have HR:=hid hR;obtain ⟨kc,kf,_⟩:=blk hR;have c0:=kc 0;have c1:=kc 1;have c2:=kc 2;have f0:=kf 0;have f1:=kf 1;have f2:=kf 2;clear kc kf hR;go_wp2_with fail;(try simp only [Exit.inBlock,Exit.then])
  refine bodyPost_ret (results_row3 rfl _ _ _ _ _ _ _ rfl (set3 HR.out) Tryz.underlying220 rfl (by kernel_rfl)) rfl ?_;exact ⟨_,_,_,rfl,below_set3 (BEL0.out _ HK2.out) (Nat.le_refl _) _ _ _,Or.inr ⟨fun hg=>by have:=hg.1;have:=HMM.out;omega,by decide,rfl⟩⟩
instance goodF_dec (b:List Nat):Decidable (goodF b):=by unfold goodF;infer_instance
def fEp (b:List Nat):Nat:=ofLe ((b.drop 2).take 8)
def fSq (b:List Nat):Nat:=ofLe ((b.drop 10).take 8)
def fBd (b:List Nat):List Nat:=(b.drop 18).take (bl b)
def nxtFr (ep last:Nat)(b:List Nat):Prop:=goodF b∧fEp b=ep∧fSq b=last+1∧last+1<18446744073709551616
instance nxtFr_dec (ep last:Nat) (b:List Nat):Decidable (nxtFr ep last b):=by unfold nxtFr;infer_instance
def scanF (ep:Nat):Nat→List Nat→Nat→Nat→List (Nat×Nat×List Nat)
 | 0,_,_,_=>[]
 | n+1,b,at_,last=>if nxtFr ep last b then (at_,last+1,fBd b)::scanF ep n (b.drop (22+bl b)) (at_+22+bl b) (last+1) else []
theorem scanF_len (ep:Nat):∀(n:Nat) (b:List Nat) (a last:Nat),22*(scanF ep n b a last).length ≤b.length
 | 0,b,a,last=>by simp [scanF]
 | n+1,b,a,last=>by
  unfold scanF;by_cases e:nxtFr ep last b
  ·rw [if_pos e];have h:=scanF_len ep n (b.drop (22+bl b)) (a+22+bl b) (last+1);have h2:=e.1.2.2.1;rw [List.length_drop] at h;simp only [List.length_cons];omega
  ·rw [if_neg e];simp
theorem fBd_len {b:List Nat}(h:goodF b):(fBd b).length = bl b:=by
 have:=h.2.2.1;unfold fBd;rw [List.length_take,List.length_drop];omega
end
section
def I (x:BitVec 64):Int:=x.toNat
theorem I_nonneg (x:BitVec 64):0≤I x:=Int.natCast_nonneg _
theorem I_lt (x:BitVec 64):I x<18446744073709551616:=by
 have:=x.isLt;unfold I;omega
theorem I_xor (x y:BitVec 64):bits .xor .u64 (I x) (I y)=I (x ^^^ y):=by
 unfold I;rw [bits_xor_u64_nat _ _ (by have:=x.isLt;omega) (by have:=y.isLt;omega),BitVec.toNat_xor]
theorem I_mul (x y:BitVec 64):IntKind.u64.wrap (I x*I y)=I (x*y):=by
 unfold I;rw [IntKind.wrap_u64,BitVec.toNat_mul];simp
theorem I_shr (x:BitVec 64)(k:Nat):I x / (2:Int) ^ k=I (x >>> k):=by
 unfold I;rw [BitVec.toNat_ushiftRight,Nat.shiftRight_eq_div_pow];simp
theorem I_shr30 (x:BitVec 64):I x / (1073741824:Int)=I (x >>> 30):=I_shr x 30
theorem I_shr27 (x:BitVec 64):I x / (134217728:Int)=I (x >>> 27):=I_shr x 27
theorem I_shr31 (x:BitVec 64):I x / (2147483648:Int)=I (x >>> 31):=I_shr x 31
end
end Go.Proofs.YtdjiopacieadpaaGreatDoor
namespace MixPlain
section
abbrev U:=BitVec 64
def M1:U:=0xBF58476D1CE4E5B9#64
def M2:U:=0x94D049BB133111EB#64
def G:U:=0x9E3779B97F4A7C15#64
def mv (x:U)(k:Nat):U:=x ^^^ (x >>> k)
def hash (x:U):U:=mv (mv (mv x 30*M1) 27*M2) 31
end
end MixPlain
namespace Go.Proofs.YtdjiopacieadpaaGreatDoor
section
open Go.RowKit MixPlain
theorem ret_u64 {a b:Int}(h:a=b):Ending.returned (.int .u64 a)=Ending.returned (.int .u64 b):=by rw [h]
theorem M1_is:I M1=13787848793156543929:=by decide
theorem M2_is:I M2=10723151780598845931:=by decide
theorem hash_any (x:BitVec 64)(n:Int)(h:n=I x)(w:World):Calls Tryz.prog 222 #[.int .u64 n] w fun e w'=>e = .returned (.int .u64 (I (hash x)))∧w=w':=by
 subst h;have h0:=I_nonneg x;have h1:=I_lt x;go_enter Tryz.func222,Tryz.ntmps222;go_wp2;go_ret;exact ⟨ret_u64 (by rw [←M1_is,←M2_is];simp only [I_xor,I_mul,I_shr30,I_shr27,I_shr31];rfl),rfl⟩
def hashF (x:Nat):Nat:=(MixPlain.hash (BitVec.ofNat 64 x)).toNat
theorem hashN_any (x:Nat)(h:x<18446744073709551616)(w:World):Calls Tryz.prog 222 #[.int .u64 x] w fun e w'=>e = .returned (.int .u64 (hashF x:Int))∧w=w':=
 hash_any (BitVec.ofNat 64 x) _ (by unfold I;rw [BitVec.toNat_ofNat,Nat.mod_eq_of_lt h]) w
end
end Go.Proofs.YtdjiopacieadpaaGreatDoor
namespace IdxPlain
section
abbrev St:=Nat×Nat×Nat
def findGo (sl:List St)(n id:Nat):Nat→Nat→Option Nat→Option Nat×Bool
 | 0,_,free=>(free,false)
 | f+1,p,free=>
  if (sl.getD p (0,0,0)).1=0 then (some (free.getD p),false)
  else if (sl.getD p (0,0,0)).1=1 then (if (sl.getD p (0,0,0)).2.1=id then (some p,true) else findGo sl n id f ((p+1) % n) free)
  else findGo sl n id f ((p+1) % n) (some (free.getD p))
structure Ok (h:Nat→Nat)(sl:List St)(n:Nat)(M:Nat→Option Nat):Prop where
 len:sl.length=n
 small:∀s∈sl,s.1≤2
 into:∀(i:Nat) (s:St),sl[i]?=some s→s.1=1→M s.2.1=some s.2.2
 out:∀id v,M id=some v→ ∃j,j<n∧sl[(h id+j) % n]?=some (1,id,v)∧ ∀j',j'<j→ ∃s,sl[(h id+j') % n]?=some s∧s.1≠0
 one:∀(i k:Nat) (s t:St),sl[i]?=some s→sl[k]?=some t→s.1=1→t.1=1→s.2.1=t.2.1→i=k
theorem getD_of {sl:List St}{p:Nat}{s:St}(h:sl[p]?=some s):sl.getD p (0,0,0)=s:=by
 rw [List.getD_eq_getElem?_getD,h];rfl
theorem step_mod (a j n:Nat):((a+j) % n+1) % n=(a+(j+1)) % n:=by
 rw [Nat.mod_add_mod,Nat.add_assoc]
theorem find_there {h:Nat→Nat}{sl:List St}{n:Nat}{M:Nat→Option Nat}(H:Ok h sl n M){id v:Nat}(hm:M id=some v):
 ∃i,findGo sl n id n (h id % n) none=(some i,true)∧sl[i]?=some (1,id,v):=by
 obtain ⟨j,hj,hat,hall⟩:=H.out id v hm;have key:∀(d k:Nat) (free:Option Nat),k+d=j→ ∃i,findGo sl n id (n-k) ((h id+k) % n) free=(some i,true)∧sl[i]?=some (1,id,v):=by
  intro d;induction d with
  | zero=>
   intro k free hk;obtain rfl:k=j:=by omega
   obtain ⟨f,hf⟩:∃f,n-k=f+1:=⟨n-k-1,by omega⟩;refine ⟨(h id+k) % n,?_,hat⟩;rw [hf];unfold findGo;rw [getD_of hat,if_neg (by decide:¬(1:Nat)=0),if_pos rfl,if_pos rfl]
  | succ d ih=>
   intro k free hk;obtain ⟨s,hs,hne⟩:=hall k (by omega);obtain ⟨f,hf⟩:∃f,n-k=f+1:=⟨n-k-1,by omega⟩;have hf':f=n-(k+1):=by omega
   rw [hf];unfold findGo;rw [getD_of hs,if_neg hne,step_mod,hf'];by_cases h1:s.1=1
   ·rw [if_pos h1];by_cases hid:s.2.1=id
    ·exact ⟨(h id+k) % n,by rw [if_pos hid],by
      rw [hs];have:=H.into _ _ hs h1;rw [hid,hm] at this;injection this with this;obtain ⟨a,b,c⟩:=s;simp only at h1 hid this;rw [h1,hid,this]⟩
    ·rw [if_neg hid];exact ih (k+1) free (by omega)
   ·rw [if_neg h1];exact ih (k+1) _ (by omega)
 have:=key j 0 none (by omega);simpa using this
def Fit (h:Nat→Nat)(sl:List St)(n id i:Nat):Prop:=
 ∃s j,sl[i]?=some s∧s.1≠1∧j<n∧i=(h id+j) % n∧ ∀j',j'<j→ ∃t,sl[(h id+j') % n]?=some t∧t.1≠0
theorem find_not {h:Nat→Nat}{sl:List St}{n:Nat}{M:Nat→Option Nat}(H:Ok h sl n M){id:Nat}(hm:M id=none)(he:∃(p:Nat) (s:St),sl[p]?=some s∧s.1=0):
 ∃i,findGo sl n id n (h id % n) none=(some i,false)∧Fit h sl n id i:=by
 obtain ⟨p,e,hp,he0⟩:=he;have hpn:p<n:=by rw [←H.len];exact (List.getElem?_eq_some_iff.1 hp).1
 have hn:0<n:=by omega
 have hoff:∃j,j<n∧(h id+j) % n=p:=by
  refine ⟨(p+(n-h id % n)) % n,Nat.mod_lt _ hn,?_⟩;have hlt:=Nat.mod_lt (h id) hn;rw [Nat.add_mod,Nat.mod_mod,←Nat.add_mod];have e1:(h id+(p+(n-h id % n))) % n=(h id % n+(p+(n-h id % n))) % n:=by rw [Nat.mod_add_mod]
  rw [e1,show h id % n+(p+(n-h id % n))=p+n from by omega,Nat.add_mod_right,Nat.mod_eq_of_lt hpn]
 obtain ⟨J,hJ,hJp⟩:=hoff;have key:∀(d k:Nat) (free:Option Nat),k+d=J→(∀i,free=some i→Fit h sl n id i)→(∀j',j'<k→ ∃t,sl[(h id+j') % n]?=some t∧t.1≠0)→
  ∃i,findGo sl n id (n-k) ((h id+k) % n) free=(some i,false)∧Fit h sl n id i:=by
  intro d;induction d with
  | zero=>
   intro k free hk hfree hall;obtain rfl:k=J:=by omega
   obtain ⟨f,hf⟩:∃f,n-k=f+1:=⟨n-k-1,by omega⟩;rw [hf];unfold findGo;rw [hJp,getD_of hp,if_pos he0];cases free with
   | none=>exact ⟨p,rfl,e,k,hp,by omega,hJ,hJp.symm,hall⟩
   | some i=>exact ⟨i,rfl,hfree i rfl⟩
  | succ d ih=>
   intro k free hk hfree hall;have hkn:(h id+k) % n<sl.length:=by rw [H.len];exact Nat.mod_lt _ hn
   obtain ⟨s,hs⟩:∃s,sl[(h id+k) % n]?=some s:=⟨_,List.getElem?_eq_getElem hkn⟩;obtain ⟨f,hf⟩:∃f,n-k=f+1:=⟨n-k-1,by omega⟩;have hf':f=n-(k+1):=by omega
   rw [hf];unfold findGo;rw [getD_of hs];by_cases h0:s.1=0
   ·rw [if_pos h0];cases free with
    | none=>exact ⟨_,rfl,s,k,hs,by omega,by omega,rfl,hall⟩
    | some i=>exact ⟨i,rfl,hfree i rfl⟩
   ·rw [if_neg h0,step_mod,hf'];have hall':∀j',j'<k+1→ ∃t,sl[(h id+j') % n]?=some t∧t.1≠0:=by
     intro j' hj';by_cases e9:j'=k
     ·subst e9;exact ⟨s,hs,h0⟩
     ·exact hall j' (by omega)
    by_cases h1:s.1=1
    ·rw [if_pos h1];have hid:s.2.1≠id:=by
      intro e9;have:=H.into _ _ hs h1;rw [e9,hm] at this;cases this
     rw [if_neg hid];exact ih (k+1) free (by omega) hfree hall'
    ·rw [if_neg h1];refine ih (k+1) _ (by omega) ?_ hall';intro i hi;cases free with
     | none=>injection hi with hi;subst hi;exact ⟨s,k,hs,h1,by omega,rfl,hall⟩
     | some i'=>injection hi with hi;subst hi;exact hfree _ rfl
 have:=key J 0 none (by omega) (fun i h=>by cases h) (fun j' h=>by omega);simpa using this
def put (M:Nat→Option Nat)(id v:Nat):Nat→Option Nat:=fun k=>if k=id then some v else M k
def del (M:Nat→Option Nat)(id:Nat):Nat→Option Nat:=fun k=>if k=id then none else M k
theorem set_get {sl:List St}{i p:Nat}{x:St}:(sl.set i x)[p]?=if i=p then (if i<sl.length then some x else none) else sl[p]? :=by
 rw [List.getElem?_set]
theorem put_ok {h:Nat→Nat}{sl:List St}{n:Nat}{M:Nat→Option Nat}(H:Ok h sl n M){id v i:Nat}(hm:M id=none)(hf:Fit h sl n id i):Ok h (sl.set i (1,id,v)) n (put M id v):=by
 obtain ⟨s0,j0,hs0,hne0,hj0,hi0,hall0⟩:=hf;have hil:i<sl.length:=(List.getElem?_eq_some_iff.1 hs0).1;have keep:∀(p:Nat) (t:St),sl[p]?=some t→t.1≠0→ ∃t':St,(sl.set i (1,id,v))[p]?=some t'∧t'.1≠0:=by
  intro p t hp ht;by_cases e:i=p
  ·exact ⟨(1,id,v),by rw [set_get,if_pos e,if_pos hil],by simp⟩
  ·exact ⟨t,by rw [set_get,if_neg e];exact hp,ht⟩
 have noid:∀(p:Nat) (t:St),sl[p]?=some t→t.1=1→t.2.1≠id:=by
  intro p t hp h1 e;have:=H.into p t hp h1;rw [e,hm] at this;cases this
 refine ⟨by rw [List.length_set];exact H.len,?_,?_,?_,?_⟩
 ·intro s hs;rcases List.mem_or_eq_of_mem_set hs with h1 | h1
  ·exact H.small s h1
  ·subst h1;exact (by decide:(1:Nat)≤2)
 ·intro p s hp h1;rw [set_get] at hp;split at hp
  ·injection hp with hp;subst hp;show put M id v id=some v;unfold put;rw [if_pos rfl]
  ·have:=noid p s hp h1;show put M id v s.2.1=_
   unfold put;rw [if_neg this];exact H.into p s hp h1
 ·intro id' v' hm';unfold put at hm';by_cases e:id'=id
  ·rw [if_pos e] at hm';injection hm' with hm';subst hm' e;refine ⟨j0,hj0,?_,?_⟩
   ·rw [←hi0,set_get,if_pos rfl,if_pos hil]
   ·intro j' hj';obtain ⟨t,ht,hne⟩:=hall0 j' hj';exact keep _ t ht hne
  ·rw [if_neg e] at hm';obtain ⟨j,hj,hat,hall⟩:=H.out id' v' hm';refine ⟨j,hj,?_,?_⟩
   ·rw [set_get,if_neg]
    ·exact hat
    ·intro e9;rw [←e9,hs0] at hat;injection hat with hat;rw [hat] at hne0;exact hne0 rfl
   ·intro j' hj';obtain ⟨t,ht,hne⟩:=hall j' hj';exact keep _ t ht hne
 ·intro p k s t hp hk hs ht he;rw [set_get] at hp hk;split at hp
  ·injection hp with hp;subst hp;split at hk
   ·omega
   ·exact absurd he.symm (noid k t hk ht)
  ·split at hk
   ·injection hk with hk;subst hk;exact absurd he (noid p s hp hs)
   ·exact H.one p k s t hp hk hs ht he
theorem set_ok {h:Nat→Nat}{sl:List St}{n:Nat}{M:Nat→Option Nat}(H:Ok h sl n M){id v v' i:Nat}(hi:sl[i]?=some (1,id,v)):Ok h (sl.set i (1,id,v')) n (put M id v'):=by
 have hil:i<sl.length:=(List.getElem?_eq_some_iff.1 hi).1;have keep:∀(p:Nat) (t:St),sl[p]?=some t→t.1≠0→ ∃t':St,(sl.set i (1,id,v'))[p]?=some t'∧t'.1≠0:=by
  intro p t hp ht;by_cases e:i=p
  ·exact ⟨(1,id,v'),by rw [set_get,if_pos e,if_pos hil],by simp⟩
  ·exact ⟨t,by rw [set_get,if_neg e];exact hp,ht⟩
 refine ⟨by rw [List.length_set];exact H.len,?_,?_,?_,?_⟩
 ·intro s hs;rcases List.mem_or_eq_of_mem_set hs with h1 | h1
  ·exact H.small s h1
  ·subst h1;exact (by decide:(1:Nat)≤2)
 ·intro p s hp h1;rw [set_get] at hp;split at hp
  ·injection hp with hp;subst hp;show put M id v' id=some v';unfold put;rw [if_pos rfl]
  ·rename_i hne;have:s.2.1≠id:=fun e=>hne (H.one i p _ s hi hp rfl h1 e.symm)
   show put M id v' s.2.1=_
   unfold put;rw [if_neg this];exact H.into p s hp h1
 ·intro id' w hm';unfold put at hm';by_cases e:id'=id
  ·rw [if_pos e] at hm';injection hm' with hm';subst hm' e;obtain ⟨j,hj,hat,hall⟩:=H.out _ _ (H.into i _ hi rfl);have hij:i=(h id'+j) % n:=H.one i _ _ _ hi hat rfl rfl rfl;refine ⟨j,hj,by show (sl.set i (1,id',v'))[(h id'+j) % n]?=_;rw [←hij,set_get,if_pos rfl,if_pos hil],?_⟩;intro j' hj';obtain ⟨t,ht,hne⟩:=hall j' hj';exact keep _ t ht hne
  ·rw [if_neg e] at hm';obtain ⟨j,hj,hat,hall⟩:=H.out id' w hm';refine ⟨j,hj,?_,?_⟩
   ·rw [set_get,if_neg]
    ·exact hat
    ·intro e9;rw [←e9,hi] at hat;injection hat with hat;injection hat with _ hat;injection hat with hat;exact e hat.symm
   ·intro j' hj';obtain ⟨t,ht,hne⟩:=hall j' hj';exact keep _ t ht hne
 ·intro p k s t hp hk hs ht he;rw [set_get] at hp hk;split at hp
  ·injection hp with hp;subst hp;split at hk
   ·omega
   ·rename_i hne;exact absurd (H.one i k _ t hi hk rfl ht he) hne
  ·split at hk
   ·rename_i hne _;injection hk with hk;subst hk;exact absurd (H.one i p _ s hi hp rfl hs he.symm) hne
   ·exact H.one p k s t hp hk hs ht he
theorem drop_ok {h:Nat→Nat}{sl:List St}{n:Nat}{M:Nat→Option Nat}(H:Ok h sl n M){id v i:Nat}(hi:sl[i]?=some (1,id,v)):Ok h (sl.set i (2,0,0)) n (del M id):=by
 have hil:i<sl.length:=(List.getElem?_eq_some_iff.1 hi).1;have keep:∀(p:Nat) (t:St),sl[p]?=some t→t.1≠0→ ∃t':St,(sl.set i (2,0,0))[p]?=some t'∧t'.1≠0:=by
  intro p t hp ht;by_cases e:i=p
  ·exact ⟨(2,0,0),by rw [set_get,if_pos e,if_pos hil],by simp⟩
  ·exact ⟨t,by rw [set_get,if_neg e];exact hp,ht⟩
 refine ⟨by rw [List.length_set];exact H.len,?_,?_,?_,?_⟩
 ·intro s hs;rcases List.mem_or_eq_of_mem_set hs with h1 | h1
  ·exact H.small s h1
  ·subst h1;exact (by decide:(2:Nat)≤2)
 ·intro p s hp h1;rw [set_get] at hp;split at hp
  ·injection hp with hp;subst hp;cases h1
  ·rename_i hne;have:s.2.1≠id:=fun e=>hne (H.one i p _ s hi hp rfl h1 e.symm)
   show del M id s.2.1=_
   unfold del;rw [if_neg this];exact H.into p s hp h1
 ·intro id' w hm';unfold del at hm';by_cases e:id'=id
  ·rw [if_pos e] at hm';cases hm'
  ·rw [if_neg e] at hm';obtain ⟨j,hj,hat,hall⟩:=H.out id' w hm';refine ⟨j,hj,?_,?_⟩
   ·rw [set_get,if_neg]
    ·exact hat
    ·intro e9;rw [←e9,hi] at hat;injection hat with hat;injection hat with _ hat;injection hat with hat;exact e hat.symm
   ·intro j' hj';obtain ⟨t,ht,hne⟩:=hall j' hj';exact keep _ t ht hne
 ·intro p k s t hp hk hs ht he;rw [set_get] at hp hk;split at hp
  ·injection hp with hp;subst hp;cases hs
  ·split at hk
   ·injection hk with hk;subst hk;cases ht
   ·exact H.one p k s t hp hk hs ht he
theorem none_ok (h:Nat→Nat)(n:Nat):Ok h (List.replicate n (0,0,0)) n (fun _=>none):=by
 refine ⟨by simp,?_,?_,?_,?_⟩
 ·intro s hs;rw [List.eq_of_mem_replicate hs];exact Nat.zero_le _
 ·intro i s hi h1;have:=List.mem_of_getElem? hi;rw [List.eq_of_mem_replicate this] at h1;cases h1
 ·intro id v h;cases h
 ·intro i k s t hi hk hs;have:=List.mem_of_getElem? hi;rw [List.eq_of_mem_replicate this] at hs;cases hs
def cnt (c:Nat)(sl:List St):Nat:=(sl.filter fun s=>s.1 == c).length
theorem cnt_cons (c:Nat)(s:St)(l:List St):cnt c (s::l)=(if s.1=c then 1 else 0)+cnt c l:=by
 unfold cnt;rw [List.filter_cons];by_cases h:s.1=c
 ·simp [h];omega
 ·simp [h]
theorem cnt_set (c:Nat):∀(l:List St) (i:Nat) (s x:St),l[i]?=some s→cnt c (l.set i x)+(if s.1=c then 1 else 0)=cnt c l+(if x.1=c then 1 else 0)
 | [],i,s,x,h=>by cases h
 | y::l,0,s,x,h=>by
  have e:y=s:=by simpa using h
  subst e;rw [List.set_cons_zero,cnt_cons,cnt_cons];omega
 | y::l,i+1,s,x,h=>by
  rw [List.set_cons_succ,cnt_cons,cnt_cons];have:=cnt_set c l i s x (by simpa using h);omega
theorem cnt_all:∀(l:List St),(∀s∈l,s.1≤2)→cnt 0 l+cnt 1 l+cnt 2 l=l.length
 | [],_=>rfl
 | s::l,h=>by
  have:=cnt_all l (fun s hs=>h s (List.mem_cons_of_mem _ hs));have h2:=h s (List.mem_cons_self ..);rw [cnt_cons,cnt_cons,cnt_cons,List.length_cons];rcases (by omega:s.1=0∨s.1=1∨s.1=2) with e | e | e<;>simp [e]<;>omega
theorem cnt_pos {c:Nat}{l:List St}(h:0<cnt c l):∃(p:Nat) (s:St),l[p]?=some s∧s.1=c:=by
 unfold cnt at h;obtain ⟨s,hs⟩:=List.exists_mem_of_length_pos h;rw [List.mem_filter] at hs;obtain ⟨p,hp⟩:=List.getElem?_of_mem hs.1;exact ⟨p,s,hp,by simpa using hs.2⟩
theorem cnt_replicate (n:Nat):cnt 1 (List.replicate n (0,0,0))=0∧cnt 2 (List.replicate n (0,0,0))=0:=by
 unfold cnt;constructor<;>(rw [List.filter_eq_nil_iff.2 (by intro a ha;rw [List.eq_of_mem_replicate ha];simp)];rfl)
theorem empty_of {h:Nat→Nat}{sl:List St}{n:Nat}{M:Nat→Option Nat}(H:Ok h sl n M)(hc:cnt 1 sl+cnt 2 sl<n):∃(p:Nat) (s:St),sl[p]?=some s∧s.1=0:=by
 have:=cnt_all sl H.small;rw [H.len] at this;exact cnt_pos (by omega)
end
end IdxPlain
namespace Go.Proofs.YtdjiopacieadpaaGreatDoor
section
open Go.RowKit
theorem geoIn_any (n m:Int)(w:World):Calls Tryz.prog 84 #[.int .i64 n,.int .i64 m] w fun e w'=>e = .returned (.bool (decide (1≤n∧n≤m)))∧w=w':=by
 by_cases h1:1≤n
 ·by_cases h2:n≤m
  ·have hd:decide (1≤n∧n≤m)=true:=by simp [h1,h2]
   rw [hd];clear hd;go_enter Tryz.func84,Tryz.ntmps84;go_wp2;go_ret;exact ⟨rfl,rfl⟩
  ·have hd:decide (1≤n∧n≤m)=false:=by simp;omega
   rw [hd];clear hd;go_enter Tryz.func84,Tryz.ntmps84;go_wp2;go_ret;exact ⟨rfl,rfl⟩
 ·have hd:decide (1≤n∧n≤m)=false:=by simp;omega
  rw [hd];clear hd;go_enter Tryz.func84,Tryz.ntmps84;go_wp2;go_ret;exact ⟨rfl,rfl⟩
def shB (s c g:Int):Bool:=decide ((1≤s∧s≤1024)∧(1≤c∧c≤4096)∧1≤g∧g≤64)
theorem geoCheck_ok (s c g:Int)(w:World)(h1:1≤s)(h2:s≤1024)(h3:1≤c)(h4:c≤4096)(h5:1≤g)(h6:g≤64):Calls Tryz.prog 38 #[.agg #[.int .i64 s,.int .i64 c,.int .i64 g]] w fun e w'=>e = .returned (.int .i64 0)∧Below w.heap.size w w':=by
 have d1:decide (1≤s∧s≤1024)=true:=by simp [h1,h2]
 have d2:decide (1≤c∧c≤4096)=true:=by simp [h3,h4]
 have d3:decide (1≤g∧g≤64)=true:=by simp [h5,h6]
 have n1:¬s=0:=by omega
 clear h1 h2 h3 h4 h5 h6;go_enter Tryz.func38,Tryz.ntmps38;go_wp2_with (go_at_call 84;refine (geoIn_any _ _ _).mono ?_;rintro e w' ⟨rfl,rfl⟩);go_ret;exact ⟨rfl,(Below.refl _ _).alloc (Nat.le_refl _) _⟩
theorem geoCheck_bad (s c g:Int)(w:World)(h:shB s c g=false):Calls Tryz.prog 38 #[.agg #[.int .i64 s,.int .i64 c,.int .i64 g]] w fun e w'=>e = .returned (.int .i64 90)∧Below w.heap.size w w':=by
 unfold shB at h;rw [decide_eq_false_iff_not] at h;by_cases h1:1≤s∧s≤1024
 ·have d1:decide (1≤s∧s≤1024)=true:=by simp [h1]
  have n1:¬s=0:=by omega
  by_cases h2:1≤c∧c≤4096
  ·have d2:decide (1≤c∧c≤4096)=true:=by simp [h2]
   have d3:decide (1≤g∧g≤64)=false:=by simp;omega
   clear h h1 h2;go_enter Tryz.func38,Tryz.ntmps38;go_wp2_with (go_at_call 84;refine (geoIn_any _ _ _).mono ?_;rintro e w' ⟨rfl,rfl⟩);go_ret;exact ⟨rfl,(Below.refl _ _).alloc (Nat.le_refl _) _⟩
  ·have d2:decide (1≤c∧c≤4096)=false:=by simp;omega
   clear h h1 h2;go_enter Tryz.func38,Tryz.ntmps38;go_wp2_with (go_at_call 84;refine (geoIn_any _ _ _).mono ?_;rintro e w' ⟨rfl,rfl⟩);go_ret;exact ⟨rfl,(Below.refl _ _).alloc (Nat.le_refl _) _⟩
 ·have d1:decide (1≤s∧s≤1024)=false:=by simp;omega
  clear h h1;go_enter Tryz.func38,Tryz.ntmps38;go_wp2_with (go_at_call 84;refine (geoIn_any _ _ _).mono ?_;rintro e w' ⟨rfl,rfl⟩);all_goals
   go_ret;exact ⟨rfl,(Below.refl _ _).alloc (Nat.le_refl _) _⟩
def sizedB (z:Int):Bool:=decide (64≤z) && (decide (z≤4096) && (bits .and .i64 z (z-1) == 0))
theorem sized_any (z:Int)(w:World):Calls Tryz.prog 39 #[.int .i64 z] w fun e w'=>e = .returned (.bool (sizedB z))∧w=w':=by
 by_cases h1:64≤z
 ·by_cases h2:z≤4096
  ·have hd:sizedB z=(bits .and .i64 z (z-1) == 0):=by simp [sizedB,h1,h2]
   rw [hd];clear hd;go_enter Tryz.func39,Tryz.ntmps39;go_wp2;go_ret;exact ⟨rfl,rfl⟩
  ·have hd:sizedB z=false:=by simp [sizedB,h2]
   rw [hd];clear hd;go_enter Tryz.func39,Tryz.ntmps39;go_wp2;go_ret;exact ⟨rfl,rfl⟩
 ·have hd:sizedB z=false:=by simp [sizedB,h1]
  rw [hd];clear hd;go_enter Tryz.func39,Tryz.ntmps39;go_wp2;go_ret;exact ⟨rfl,rfl⟩
theorem sizedB_le {z:Int}(h:sizedB z=true):64≤z∧z≤4096:=by
 simp only [sizedB,Bool.and_eq_true,decide_eq_true_eq] at h;exact ⟨h.1,h.2.1⟩
theorem up_any (n z:Int)(w:World)(h0:0≤n)(h1:n≤1000000)(h2:64≤z)(h3:z≤4096):Calls Tryz.prog 85 #[.int .i64 n,.int .i64 z] w fun e w'=>e = .returned (.int .i64 ((n+z-1) / z))∧w=w':=by
 go_enter Tryz.func85,Tryz.ntmps85;go_wp2;go_ret;exact ⟨rfl,rfl⟩
theorem min_nat (s c:Nat):(if (c:Int)<(s:Int) then (c:Int) else (s:Int))=((min s c:Nat):Int):=by split<;>omega
theorem geoImage_any (s c:Nat)(g:Int)(w:World)(h1:s≤1024)(h2:c≤4096):Calls Tryz.prog 86 #[.agg #[.int .i64 s,.int .i64 c,.int .i64 g]] w fun e w'=>e = .returned (.int .i64 ((20+14*min s c:Nat):Int))∧Below w.heap.size w w':=by
 have hm:=hid (min_nat s c);have hle:min s c≤1024:=by omega
 have hcast:((20+14*min s c:Nat):Int)=20+14*((min s c:Nat):Int):=by push_cast;rfl
 rw [hcast];clear hcast;go_enter Tryz.func86,Tryz.ntmps86;go_wp2_with (refine wpList_min2 rfl _ _ rfl (s:Int) (c:Int) ((min s c:Nat):Int) rfl rfl hm.out ?_);go_ret;exact ⟨rfl,(Below.refl _ _).alloc (Nat.le_refl _) _⟩
def slotN (s c z:Nat):Nat:=1+(20+14*min s c+z-1) / z
theorem geoSlot_any (s c z:Nat)(g:Int)(w:World)(h1:s≤1024)(h2:c≤4096)(h3:64≤z)(h4:z≤4096):Calls Tryz.prog 41 #[.agg #[.int .i64 s,.int .i64 c,.int .i64 g],.int .i64 z] w fun e w'=>e = .returned (.int .i64 (slotN s c z:Int))∧Below w.heap.size w w':=by
 have hle:20+14*min s c≤14356:=by omega
 obtain ⟨I,hI⟩:∃I,20+14*min s c=I:=⟨_,rfl⟩;have HI:=hid hI;have hq:(I+z-1) / z≤14356:=by
  have:(I+z-1) / z≤(I+z-1) / 1:=Nat.div_le_div_left (by omega) (by omega);rcases Nat.lt_or_ge ((I+z-1) / z) 14357 with h | h
  ·omega
  ·have h9:=Nat.div_mul_le_self (I+z-1) z;have h8:14357*64≤(I+z-1) / z*z:=Nat.mul_le_mul h h3;omega
 obtain ⟨q,hq0⟩:∃q,(I+z-1) / z=q:=⟨_,rfl⟩;have HQ:=hid (show slotN s c z=1+q by unfold slotN;rw [hI,hq0]);have hqi:((I:Int)+(z:Int)-1) / (z:Int)=(q:Int):=by
  rw [←hq0,show ((I:Int)+(z:Int)-1)=((I+z-1:Nat):Int) from by omega];exact (Int.natCast_ediv _ _).symm
 have HQI:=hid hqi;rw [hI] at hle;rw [hq0] at hq;clear hI hq0 hqi;go_enter Tryz.func41,Tryz.ntmps41;go_wp2_with fail;refine (geoImage_any s c g _ h1 h2).mono ?_;rintro e w1 ⟨rfl,hb⟩;have HB:=hid hb;clear hb;rw [HI.out];go_wp2_with fail;refine (up_any _ _ _ (by omega) (by omega) (by omega) (by omega)).mono ?_;rintro e w' ⟨rfl,rfl⟩;rw [HQI.out];go_wp2_with fail;go_ret;exact ⟨by rw [HQ.out];push_cast;rfl,((Below.refl _ _).alloc (Nat.le_refl _) _).trans (HB.out.mono (by simp))⟩
end
end Go.Proofs.YtdjiopacieadpaaGreatDoor
