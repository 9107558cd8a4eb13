/- TopNear: part Pbb: SlR SlP SlotPlain. -/
import Derived.Test.YtdjiopacieadpaaGreatDoorPba
set_option linter.unusedVariables false
set_option linter.unusedSimpArgs false
set_option maxRecDepth 8000
set_option maxHeartbeats 8000000
namespace Go.Proofs.YtdjiopacieadpaaGreatDoor
section
open Go.RowKit FlatPlain
def hdG (b:List Nat):Nat:=ofLe ((b.drop 4).take 8)
def hdC (b:List Nat):Nat:=ofLe ((b.drop 12).take 8)
def hdN (b:List Nat):Nat:=ofLe ((b.drop 20).take 4)
def hdS (b:List Nat):Nat:=ofLe ((b.drop 24).take 4)
def hdK (b:List Nat):Nat:=ofLe ((b.drop 28).take 4)
def goodH (b:List Nat):Prop:=b.take 4=markL∧hdK b=crcF (b.take 28)∧0<hdG b∧hdN b≤67108864
instance (b:List Nat):Decidable (goodH b):=by unfold goodH;infer_instance
theorem bytes_inj:∀(a b:List Nat),Bs a→Bs b→(a.map fun n=>UInt8.ofNat n)=(b.map fun n=>UInt8.ofNat n)→a=b
 | [],[],_,_,_=>rfl
 | [],_::_,_,_,h=>by simp at h
 | _::_,[],_,_,h=>by simp at h
 | x::a,y::b,ha,hb,h=>by
  simp only [List.map_cons,List.cons.injEq] at h;have hx:=ha x (List.mem_cons_self ..);have hy:=hb y (List.mem_cons_self ..);have e:x=y:=by
   have:=congrArg UInt8.toNat h.1;simp at this;omega
  rw [e,bytes_inj a b (fun z hz=>ha z (List.mem_cons_of_mem _ hz)) (fun z hz=>hb z (List.mem_cons_of_mem _ hz)) h.2]
theorem mark_conv {w:World}{g cap:Nat}{l:List Nat}(h:w.ownsRow 0 5 1 (.slice (some ⟨g,0,none⟩) 4 cap) 4 (Lb l))(hl:Bs l)(h4:l.length=4):
 ∃S:ByteArray,(∀W:World,(∀i,W.cell? ⟨g,i,none⟩=w.cell? ⟨g,i,none⟩)→(convert 34 9 (.slice (some ⟨g,0,none⟩) 4 cap)).run Tryz.prog W = .ok (.string S) W)∧(S.toList == [71,65,78,71])=decide (l=markL):=by
 refine ⟨strOfNums (l.map fun n:Nat=>(n:Int)),fun W hW=>?_,?_⟩
 ·refine run_convert_bytes_arg (P:=Tryz.prog) W 34 5 Tryz.underlying34 Tryz.underlying5 g 0 4 cap _ (by simp [h4]) (fun i hi=>?_) 9 Tryz.underlying9;rw [Nat.zero_add,hW];have hil:i<(Lb l).length :=by rw [Lb_len];omega
  have:=h.cells (g:=g) rfl i _ (List.getElem?_eq_getElem hil);rw [addr_add,Nat.zero_add] at this;rw [this];have:i<l.length:=by omega
  simp [Lb,List.getD,this]
 ·have e1:(strOfNums (l.map fun n:Nat=>(n:Int))).toList = l.map fun n=>UInt8.ofNat n:=by
   have:(strOfNums (l.map fun n:Nat=>(n:Int))).data.toList = l.map fun n=>UInt8.ofNat n:=by rw [strOfNums_data,List.map_map];congr 1
   rw [←this];exact ByteArray.toList_eq _
  rw [e1];by_cases e:l=markL
  ·subst e;simp [markL]
  ·rw [decide_eq_false e];rw [beq_eq_false_iff_ne];intro h9;refine e (bytes_inj l markL hl mark_bytes ?_);rw [h9];rfl
theorem of4_lt {l:List Nat}(h:Bs l)(n:Nat)(hn:l.length≤n)(M:Nat)(hM:256 ^ n=M):ofLe l<M:=by
 have h1:=ofLe_lt h;have h2:(256:Nat) ^ l.length≤256 ^ n:=Nat.pow_le_pow_right (by omega) hn;omega
theorem tdt (b:List Nat)(m i n:Nat)(h:i+n≤m):((b.take m).drop i).take n=(b.drop i).take n:=by
 rw [List.drop_take,List.take_take,Nat.min_eq_left (by omega)]
theorem takeAt {P:Program}{md:Region.Mode}{ops:Array Oper}{Q:Exit→Act→World→Prop}{i:Nat}{oi:Oper}{d:Option Tmp}{v:Value}{fuel:Nat}{listed:Array Bool}{a:Act}{w:World}(hi:ops[i]?=some oi)(hd:oi.dst=d)(hs:Region.noSelect ops=true)(hf:Region.free md ops listed i=true)(hr:(Region.ready md ops listed).contains i=true)(hQ:∀c a w,Q (.panic c) (a.put oi.dst v) w→Q (.panic c) a w)(hy:Yields P ops oi v a)(h:wpAny P md ops Q fuel (listed.setIfInBounds i true) (a.put d v) w):wpAny P md ops Q (fuel+1) listed a w:=by
 subst hd;exact wpAny_take hi hs hf hr hQ hy h
def HdGet (b:List Nat)(w:World)(e:Ending)(w':World):Prop:= ∃(c:Array Value) (f:Int),e = .returned (.tuple #[.agg c,.int .i64 f])∧((goodH b∧f=0∧c=hdV (hdG b) (hdC b) (hdN b) (hdS b))∨(¬goodH b∧f≠0∧c=hdV 0 0 0 0))∧Below w.heap.size w w'
theorem hread_any (v:Value)(b:List Nat)(w:World)(hv:Sl w v (Lb b))(hbs:Bs b)(h32:32≤b.length)(hl:b.length≤1000000)(hT:Tab w):Calls Tryz.prog 149 #[v] w (HdGet b w):=by
 obtain ⟨a,c,rfl,hc,hcm⟩:=Sl_partsB hv;have HV:=hid hv;have HBS:=hid hbs;have HT:=hid hT;have hcc:32≤c:=by omega
 have hll:¬(b.length:Int)<32:=by omega
 have hN:((b.drop 20).take 4).length ≤4:=by rw [List.length_take];omega
 have hNl:hdN b<4294967296:=of4_lt (Bs_take (Bs_drop hbs 20) 4) 4 hN _ rfl;have hwN:IntKind.i64.wrap (hdN b:Int)=(hdN b:Int):=by rw [IntKind.wrap_i64];omega
 clear hv hbs hT hN hNl;go_enter Tryz.func149,Tryz.ntmps149;go_wp2_with fail;have N:=new1 w (.cells #[.int .u64 0,.int .u64 0,.int .i64 0,.int .u32 0] 88);obtain ⟨w0,hw0⟩:∃w0,w.alloc (.cells #[.int .u64 0,.int .u64 0,.int .i64 0,.int .u32 0] 88)=w0:=⟨_,rfl⟩;rw [hw0] at N ⊢;have HN:=hid N;have HV0:=hid (Sl_below HV.out N.2.2 (Nat.le_refl _));clear N hw0;refine (of_any _ (b.take 32) _ (by rw [←Lb_take];exact Sl_pre HV0.out (by rw [Lb_len];exact h32)) (by rw [List.length_take];omega)).mono ?_;rintro o w1 ⟨r,q,rfl,h1,hr,hq,h2⟩;have hl0:(b.take 32).length = 32:=by rw [List.length_take];omega
 obtain ⟨l0,hL0⟩:∃l0,b.take 32=l0:=⟨_,rfl⟩;rw [hL0] at h1 hl0;have HL0:=hid hL0;have HLL:=hid hl0;have HBL:=hid (show Bs l0 from by rw [←hL0];exact Bs_take HBS.out 32);have HRD1:=hid h1;have HK1:=hid (show Kp (· = q) w0 w1 from Kp.of_below h2 (Nat.le_refl _));have HQ:=hid (And.intro hr hq);have HB1:=hid h2;clear h1 h2 hL0 hl0 hr hq;go_wp2_with fail;refine (rtake_any r q l0 0 4 _ HRD1.out (by omega)).mono ?_;rintro o w2 ⟨v2,rfl,h1,h2,h3⟩;obtain ⟨e1,e2,e3⟩:=tkB_in (l:=l0) (n:=4) (by rw [HLL.out];omega);rw [e1] at h1;rw [e2,e3] at h2;have h4:(l0.take 4).length = 4:=by rw [List.length_take,HLL.out];omega
 rw [h4] at h1;obtain ⟨g,cg,rfl,hcg,hgg⟩:=own_some h1 (by omega);obtain ⟨S,hS1,hS2⟩:=mark_conv (own_mono h1 (Nat.zero_le _)) (Bs_take HBL.out 4) h4;have hS3:=hS1 w2 (fun _=>rfl);have HRD2:=hid h2;have HK2:=hid (HK1.out.trans h3);have hmk:decide (l0.take 4=markL)=decide (b.take 4=markL):=by rw [←HL0.out,List.take_take];rfl
 rw [hmk] at hS2;clear h1 h2 h3 h4 e1 e2 e3 hS1 hmk;go_wp2_with fail;refine (reight_in r q _ _ HRD2.out (Bs_drop HBL.out _) (by rw [List.length_drop,HLL.out];omega)).mono ?_;rintro o w3 ⟨rfl,h1,h2⟩;rw [List.drop_drop] at h1;have HRD3:=hid h1;have HK3:=hid (HK2.out.trans h2);have g3:ofLe ((l0.drop 4).take 8)=ofLe ((b.drop 4).take 8):=by rw [←HL0.out,tdt _ _ _ _ (by omega)]
 rw [g3];clear h1 h2 g3;go_wp2_with fail;refine (reight_in r q _ _ HRD3.out (Bs_drop HBL.out _) (by rw [List.length_drop,HLL.out];omega)).mono ?_;rintro o w4 ⟨rfl,h1,h2⟩;rw [List.drop_drop] at h1;have HRD4:=hid h1;have HK4:=hid (HK3.out.trans h2);have g4:ofLe ((l0.drop 12).take 8)=ofLe ((b.drop 12).take 8):=by rw [←HL0.out,tdt _ _ _ _ (by omega)]
 rw [g4];clear h1 h2 g4;go_wp2_with fail;refine (rfour_in r q _ _ HRD4.out (Bs_drop HBL.out _) (by rw [List.length_drop,HLL.out];omega)).mono ?_;rintro o w5 ⟨rfl,h1,h2⟩;rw [List.drop_drop] at h1;have HRD5:=hid h1;have HK5:=hid (HK4.out.trans h2);have g5:ofLe ((l0.drop 20).take 4)=ofLe ((b.drop 20).take 4):=by rw [←HL0.out,tdt _ _ _ _ (by omega)]
 rw [g5,show ofLe ((b.drop 20).take 4)=hdN b from rfl];clear h1 h2 g5;go_wp2_with fail;refine (rfour_in r q _ _ HRD5.out (Bs_drop HBL.out _) (by rw [List.length_drop,HLL.out];omega)).mono ?_;rintro o w6 ⟨rfl,h1,h2⟩;rw [List.drop_drop] at h1;have HRD6:=hid h1;have HK6:=hid (HK5.out.trans h2);have g6:ofLe ((l0.drop 24).take 4)=ofLe ((b.drop 24).take 4):=by rw [←HL0.out,tdt _ _ _ _ (by omega)]
 rw [g6];clear h1 h2 g6;go_wp2_with fail;rw [show ofLe ((b.drop 4).take 8)=hdG b from rfl,show ofLe ((b.drop 12).take 8)=hdC b from rfl,show ofLe ((b.drop 24).take 4)=hdS b from rfl];have N6:=new1 w6 (.cells #[.int .u64 (hdG b:Int),.int .u64 (hdC b:Int),.int .i64 (hdN b:Int),.int .u32 (hdS b:Int)] 88);obtain ⟨W,hW⟩:∃W,w6.alloc (.cells #[.int .u64 (hdG b:Int),.int .u64 (hdC b:Int),.int .i64 (hdN b:Int),.int .u32 (hdS b:Int)] 88)=W:=⟨_,rfl⟩;rw [hW] at N6 ⊢;have HKW:=hid (HK6.out.trans (Kp.of_new N6.2.2));have HNW:=hid N6.1;have hq6:q<w6.heap.size:=by have:=HRD6.out.2.2.lt;exact this
 have HQ6:=hid hq6;have C31:Hid (∀m,Calls Tryz.prog 31 #[.pointer (some ⟨r,0,none⟩)] (W.drewN m) fun o w'=>o = .returned (.int .u32 (hdK b:Int))∧Kp (· = q) W w'):=hid (by
  intro m;refine (rfour_in r q _ _ (HRD6.out.below (below_drewN N6.2.2 m) (Nat.le_refl _)) (Bs_drop HBL.out _) (by rw [List.length_drop,HLL.out];omega)).mono ?_;rintro o w' ⟨rfl,_,h2⟩;refine ⟨?_,(Kp.refl _ W).drewN m |>.trans h2⟩;rw [show 4+8+8+4+4=28 from rfl,←HL0.out,tdt _ _ _ _ (by omega)];rfl)
 have C67:Hid (∀W',Kp (· = q) w0 W'→Calls Tryz.prog 67 #[.slice a 28 c] W' fun o w'=>o = .returned (.int .u32 (crcF (b.take 28):Int))∧W'=w'):=hid (by
  intro W' hk;refine sum_any _ (b.take 28) _ ?_ (Bs_take HBS.out _) ?_
  ·rw [←Lb_take];refine Sl_pre (Sl_kp HV0.out hk (fun x hx e=>?_)) (by rw [Lb_len];omega);have:=Sl_lt HV.out (fun e9=>by have:=Lb_len b;rw [e9] at this;simp at this;omega) x hx;have h9:x=q:=e;have:=HQ.out;have:=HN.out.2.1;omega
  ·exact (HT.out.below HN.out.2.2 HT.out.size).kp hk (by have:=HQ.out;have:=HN.out.2.1;have:=HT.out.size;omega))
 clear N6 hW hq6 hS2 hS3 hcg hgg;have hcc2:28≤c:=by omega
 have hcI:(28:Int)≤(c:Int):=by omega
 refine wp_region_any (by kernel_rfl) ?_;change wpAny _ _ _ _ _ _ _ (World.drew _)
 refine takeAt (i:=0) (d:=some 29) (v:=?_) rfl rfl (by kernel_rfl) (by kernel_rfl) (by kernel_rfl) (fun _ _ _ h=>h) (Or.inl ⟨rfl,fun w9=>?_⟩) ?_;rotate_left
 ·go_simp;try with_reducible rfl
 simp only [Act.put,List.setIfInBounds_toArray,List.set_cons_zero,List.set_cons_succ];refine takeAt (i:=2) (d:=some 31) (v:=?_) rfl rfl (by kernel_rfl) (by kernel_rfl) (by kernel_rfl) (fun _ _ _ h=>h) (Or.inl ⟨rfl,fun w9=>?_⟩) ?_;rotate_left
 ·go_simp;try with_reducible rfl
 simp only [Act.put,List.setIfInBounds_toArray,List.set_cons_zero,List.set_cons_succ];refine takeAt (i:=3) (d:=some 32) (v:= .slice a 28 c) rfl rfl (by kernel_rfl) (by kernel_rfl) (by kernel_rfl) (fun _ _ _ h=>h) (Or.inl ⟨rfl,fun w9=>?_⟩) ?_
 ·go_simp
 simp only [Act.put,List.setIfInBounds_toArray,List.set_cons_zero,List.set_cons_succ];refine wpAny_ready (rs:=[1]) (by kernel_rfl) (by simp) ?_;refine AllReady.cons rfl (fun K9 hK9=>?_) AllReady.nil;go_simp;refine (C31.out 1).mono ?_;rintro e w7 ⟨rfl,hk7⟩;have HK7:=hid hk7;clear hk7;go_wp2_with fail;try (refine hK9 _ _ ?_;clear hK9 K9)
 refine wpAny_ready (rs:=[4]) (by kernel_rfl) (by simp) ?_;refine AllReady.cons rfl (fun K9 hK9=>?_) AllReady.nil;go_simp;refine (C67.out _ (HKW.out.trans HK7.out)).mono ?_;rintro e w8 ⟨rfl,rfl⟩;go_wp2_with fail;try (refine hK9 _ _ ?_;clear hK9 K9)
 have hdif:∀x y:Nat,x≠y→((x:Int) != (y:Int))=true:=fun x y h=>by simp;omega
 have hb7:w7.heap[w6.heap.size]?=some (.cells #[.int .u64 (hdG b:Int),.int .u64 (hdC b:Int),.int .i64 (hdN b:Int),.int .u32 (hdS b:Int)] 88 (0,0)):=HK7.out.blk HNW.out (by have:=HQ6.out;omega);have hR7:w7.heap[w.heap.size]?=some (.cells #[.int .u64 0,.int .u64 0,.int .i64 0,.int .u32 0] 88 (0,0)):=(HKW.out.trans HK7.out).blk HN.out.1 (by have:=HQ.out;have:=HN.out.2.1;omega);have HR7:=hid hR7;have HB7:=hid hb7;obtain ⟨k0,_,k1,_,k2,_,k3,_⟩:=cells4 hb7;obtain ⟨r0,f0,r1,f1,r2,f2,r3,f3⟩:=cells4 hR7;have HBW:Hid (Below w.heap.size w w7):=hid (HN.out.2.2.trans ((HKW.out.trans HK7.out).below (B:=w.heap.size) HN.out.2.2.size (fun x hx=>by have h9:x=q:=hx;have:=HQ.out;have:=HN.out.2.1;omega)));clear hb7 hR7;by_cases hk:hdK b=crcF (b.take 28)
 ·rw [hk];have HKK:=hid hk;clear hk hdif;refine takeAt (i:=5) (d:=some 34) (v:=?_) rfl rfl (by kernel_rfl) (by kernel_rfl) (by kernel_rfl) (fun _ _ _ h=>h) (Or.inl ⟨rfl,fun w9=>?_⟩) ?_;rotate_left
  ·go_simp;try with_reducible rfl
  simp only [Act.put,List.setIfInBounds_toArray,List.set_cons_zero,List.set_cons_succ];refine takeAt (i:=6) (d:=some 35) (v:=?_) rfl rfl (by kernel_rfl) (by kernel_rfl) (by kernel_rfl) (fun _ _ _ h=>h) (Or.inl ⟨rfl,fun w9=>?_⟩) ?_;rotate_left
  ·go_simp;try with_reducible rfl
  simp only [Act.put,List.setIfInBounds_toArray,List.set_cons_zero,List.set_cons_succ];refine takeAt (i:=7) (d:=some 36) (v:=?_) rfl rfl (by kernel_rfl) (by kernel_rfl) (by kernel_rfl) (fun _ _ _ h=>h) (Or.inl ⟨rfl,fun w9=>?_⟩) ?_;rotate_left
  ·go_simp;try with_reducible rfl
  simp only [Act.put,List.setIfInBounds_toArray,List.set_cons_zero,List.set_cons_succ];refine takeAt (i:=8) (d:=some 37) (v:=?_) rfl rfl (by kernel_rfl) (by kernel_rfl) (by kernel_rfl) (fun _ _ _ h=>h) (Or.inl ⟨rfl,fun w9=>?_⟩) ?_;rotate_left
  ·go_simp;try with_reducible rfl
  simp only [Act.put,List.setIfInBounds_toArray,List.set_cons_zero,List.set_cons_succ];refine takeAt (i:=9) (d:=some 38) (v:=?_) rfl rfl (by kernel_rfl) (by kernel_rfl) (by kernel_rfl) (fun _ _ _ h=>h) (Or.inl ⟨rfl,fun w9=>?_⟩) ?_;rotate_left
  ·go_simp;try with_reducible rfl
  simp only [Act.put,List.setIfInBounds_toArray,List.set_cons_zero,List.set_cons_succ];refine takeAt (i:=10) (d:=some 28) (v:=?_) rfl rfl (by kernel_rfl) (by kernel_rfl) (by kernel_rfl) (fun _ _ _ h=>h) (Or.inl ⟨rfl,fun w9=>?_⟩) ?_;rotate_left
  ·go_simp;try with_reducible rfl
  simp only [Act.put,List.setIfInBounds_toArray,List.set_cons_zero,List.set_cons_succ];refine wpAny_done (by kernel_rfl) ?_ _;by_cases his:b.take 4=markL
  ·rw [decide_eq_true his];have HIS:=hid his;have hmm:=hmay_any (hdG b) (hdC b) (hdN b) (hdS b) w7;unfold hdV at hmm;by_cases hmy:0<hdG b∧hdN b≤67108864
   ·rw [show (decide (0<hdG b) && decide (hdN b≤67108864))=true by simp [hmy]] at hmm;have HMM:=hid hmm;have HMY:=hid hmy;clear hmm hmy his;go_wp2_with fail;refine HMM.out.mono ?_;rintro e w8 ⟨rfl,hb8⟩;have HR8:=hid (Bl.blk hb8 HR7.out);have HB8:=hid (HBW.out.trans (hb8.mono HBW.out.size));obtain ⟨j0,_,j1,_,j2,_,j3,_⟩:=cells4 (Bl.blk hb8 HB7.out);obtain ⟨m0,n0,m1,n1,m2,n2,m3,n3⟩:=cells4 HR8.out;clear hb8;go_wp2_with fail;refine bodyPost_ret (results_row2 rfl _ _ _ _ _ _ _ rfl (rset4 HR8.out) Tryz.underlying88 rfl (by kernel_rfl)) rfl ?_;exact ⟨_,_,rfl,Or.inl ⟨⟨HIS.out,HKK.out,HMY.out.1,HMY.out.2⟩,rfl,rfl⟩,rset4_below HB8.out (Nat.le_refl _) _ _ _ _⟩
   ·rw [show (decide (0<hdG b) && decide (hdN b≤67108864))=false by simp;omega] at hmm;have HMM:=hid hmm;have HMY:=hid hmy;clear hmm hmy his;go_wp2_with fail;refine HMM.out.mono ?_;rintro e w8 ⟨rfl,hb8⟩;have HR8:=hid (Bl.blk hb8 HR7.out);have HB8:=hid (HBW.out.trans (hb8.mono HBW.out.size));obtain ⟨m0,n0,m1,n1,m2,n2,m3,n3⟩:=cells4 HR8.out;clear hb8;go_wp2_with fail;refine bodyPost_ret (results_row2 rfl _ _ _ _ _ _ _ rfl (rset4 HR8.out) Tryz.underlying88 rfl (by kernel_rfl)) rfl ?_;exact ⟨_,_,rfl,Or.inr ⟨fun h=>HMY.out ⟨h.2.2.1,h.2.2.2⟩,by decide,rfl⟩,rset4_below HB8.out (Nat.le_refl _) _ _ _ _⟩
  ·rw [decide_eq_false his];have HIS:=hid his;clear his;go_wp2_with fail;refine bodyPost_ret (results_row2 rfl _ _ _ _ _ _ _ rfl (rset4 HR7.out) Tryz.underlying88 rfl (by kernel_rfl)) rfl ?_;exact ⟨_,_,rfl,Or.inr ⟨fun h=>HIS.out h.1,by decide,rfl⟩,rset4_below HBW.out (Nat.le_refl _) _ _ _ _⟩
 ·have hne:=hdif _ _ hk;have HKK:=hid hk;clear hk hdif;refine takeAt (i:=5) (d:=some 34) (v:=?_) rfl rfl (by kernel_rfl) (by kernel_rfl) (by kernel_rfl) (fun _ _ _ h=>h) (Or.inl ⟨rfl,fun w9=>?_⟩) ?_;rotate_left
  ·go_simp;try with_reducible rfl
  simp only [Act.put,List.setIfInBounds_toArray,List.set_cons_zero,List.set_cons_succ];refine takeAt (i:=6) (d:=some 35) (v:=?_) rfl rfl (by kernel_rfl) (by kernel_rfl) (by kernel_rfl) (fun _ _ _ h=>h) (Or.inl ⟨rfl,fun w9=>?_⟩) ?_;rotate_left
  ·go_simp;try with_reducible rfl
  simp only [Act.put,List.setIfInBounds_toArray,List.set_cons_zero,List.set_cons_succ];refine takeAt (i:=7) (d:=some 36) (v:=undef) rfl rfl (by kernel_rfl) (by kernel_rfl) (by kernel_rfl) (fun _ _ _ h=>h) (Or.inr ⟨rfl,rfl⟩) ?_;simp only [Act.put,List.setIfInBounds_toArray,List.set_cons_zero,List.set_cons_succ];refine takeAt (i:=8) (d:=some 37) (v:=undef) rfl rfl (by kernel_rfl) (by kernel_rfl) (by kernel_rfl) (fun _ _ _ h=>h) (Or.inr ⟨rfl,rfl⟩) ?_;simp only [Act.put,List.setIfInBounds_toArray,List.set_cons_zero,List.set_cons_succ];refine takeAt (i:=9) (d:=some 38) (v:=?_) rfl rfl (by kernel_rfl) (by kernel_rfl) (by kernel_rfl) (fun _ _ _ h=>h) (Or.inl ⟨rfl,fun w9=>?_⟩) ?_;rotate_left
  ·go_simp;try with_reducible rfl
  simp only [Act.put,List.setIfInBounds_toArray,List.set_cons_zero,List.set_cons_succ];refine takeAt (i:=10) (d:=some 28) (v:=?_) rfl rfl (by kernel_rfl) (by kernel_rfl) (by kernel_rfl) (fun _ _ _ h=>h) (Or.inl ⟨rfl,fun w9=>?_⟩) ?_;rotate_left
  ·go_simp;try with_reducible rfl
  simp only [Act.put,List.setIfInBounds_toArray,List.set_cons_zero,List.set_cons_succ];refine wpAny_done (by kernel_rfl) ?_ _;go_wp2_with fail;refine bodyPost_ret (results_row2 rfl _ _ _ _ _ _ _ rfl (rset4 HR7.out) Tryz.underlying88 rfl (by kernel_rfl)) rfl ?_;exact ⟨_,_,rfl,Or.inr ⟨fun h=>HKK.out h.2.1,by decide,rfl⟩,rset4_below HBW.out (Nat.le_refl _) _ _ _ _⟩
def Ss (w:World)(s a b:Nat):Prop:=w.heap[s]?=some (Obj.cells #[.pointer (some ⟨a,0,none⟩),.pointer (some ⟨b,0,none⟩)] 167 (0,0))
theorem sthere_any (s a b:Nat)(w:World)(h:Ss w s a b):Calls Tryz.prog 65 #[.pointer (some ⟨s,0,none⟩)] w fun e w'=>e = .returned (.bool true)∧w=w':=by
 obtain ⟨c0,_,c1,_⟩:=cells2 h;clear h;go_enter Tryz.func65,Tryz.ntmps65;go_wp2;go_ret;exact ⟨rfl,rfl⟩
theorem sbytes_any (s a b p z k K:Nat)(w:World)(h:Ss w s a b)(ha:Rg w a p z 0 k)(hK:k*z=K)(hKb:K<1000000000)(hzK:z≤K):Calls Tryz.prog 66 #[.pointer (some ⟨s,0,none⟩)] w fun e w'=> ∃q,e = .returned (.int .i64 ((K-z:Nat):Int))∧w'=w.drewN q:=by
 have H:=hid h;have HA:=hid ha;have HK:=hid hK;have HKB:=hid hKb;have HZK:=hid hzK;obtain ⟨c0,_,c1,_⟩:=cells2 h;have hs:IntKind.i64.wrap ((K:Int)-(z:Int))=((K-z:Nat):Int):=by rw [IntKind.wrap_i64];omega
 clear h ha hK hKb hzK;go_enter Tryz.func66,Tryz.ntmps66;go_wp2_with fail;refine (sthere_any s a b _ H.out).mono ?_;rintro e w' ⟨rfl,rfl⟩;go_wp2_with fail;go_quiet (first | (go_at_call 72;exact Calls.quiet_of ((rbytes_any a p z 0 k K _ (HA.out.new (below_drewN (Below.refl _ _) _)) HK.out HKB.out).mono (fun _ _ ⟨m,h1,h2⟩=>⟨h1,m,h2⟩))) | (go_at_call 69;exact Calls.quiet_of_same ((rsize_any a p z 0 k _ (HA.out.new (below_drewN (Below.refl _ _) _))).mono (fun _ _ h=>⟨h.1,h.2.symm⟩))))
 go_wp2_with fail;go_ret;exact ⟨_,rfl,rfl⟩
theorem snew_any (a b p z k K:Nat)(w:World)(ha:Rg w a p z 0 k)(hb:Rg w b p z k k)(hK:k*z=K)(hKb:K<1000000000)(hzK:2*z≤K)(hz:64≤z):Calls Tryz.prog 103 #[.pointer (some ⟨a,0,none⟩),.pointer (some ⟨b,0,none⟩)] w fun e w'=> ∃s,e = .returned (.tuple #[.pointer (some ⟨s,0,none⟩),.int .i64 0])∧Ss w' s a b∧w.heap.size≤s∧Below w.heap.size w w':=by
 have HA:=hid ha;have HB:=hid hb;have HK:=hid hK;have HKB:=hid hKb;have hK0:((K:Int) == 0)=false:=by simp;omega
 have hzK':¬((K:Int)<2*(z:Int)):=by omega
 have hzb:z≤1000000000:=by omega
 clear ha hb hK hKb hzK;go_enter Tryz.func103,Tryz.ntmps103;go_wp2_with fail;refine (rbytes_any a p z 0 k K _ HA.out HK.out HKB.out).mono ?_;rintro e w' ⟨q1,rfl,rfl⟩;go_wp2_with fail;refine (rbytes_any b p z k k K _ (show Rg (w.drewN q1) b p z k k from HB.out) HK.out HKB.out).mono ?_;rintro e w' ⟨q2,rfl,rfl⟩;go_wp2_with fail;refine (rbytes_any a p z 0 k K _ (show Rg (w.drewN _) a p z 0 k from HA.out) HK.out HKB.out).mono ?_;rintro e w' ⟨q3,rfl,rfl⟩;go_wp2_with fail;refine (rbytes_any b p z k k K _ (show Rg (w.drewN _) b p z k k from HB.out) HK.out HKB.out).mono ?_;rintro e w' ⟨q4,rfl,rfl⟩;go_wp2_with fail;refine (rsize_any a p z 0 k _ (show Rg (w.drewN _) a p z 0 k from HA.out)).mono ?_;rintro e w' ⟨rfl,rfl⟩;go_wp2_with fail;refine (rsize_any b p z k k _ (show Rg (w.drewN _) b p z k k from HB.out)).mono ?_;rintro e w' ⟨rfl,rfl⟩;go_wp2_with fail;refine (rbytes_any a p z 0 k K _ (show Rg (w.drewN _) a p z 0 k from HA.out) HK.out HKB.out).mono ?_;rintro e w' ⟨q5,rfl,rfl⟩;go_wp2_with fail;refine (rsize_any a p z 0 k _ (show Rg (w.drewN _) a p z 0 k from HA.out)).mono ?_;rintro e w' ⟨rfl,rfl⟩;go_wp2_with fail;go_ret2;have N:=new1 (w.drewN (q1+q2+q3+q4+q5)) (Obj.cells #[.pointer (some ⟨a,0,none⟩),.pointer (some ⟨b,0,none⟩)] 167);exact ⟨w.heap.size,rfl,N.1,Nat.le_refl _,(below_drewN (Below.refl _ _) _).trans N.2.2⟩
def hdOf (b:List Nat)(m:Nat):Option (Nat×Nat×Nat×Nat):=if goodH b∧hdN b≤m then some (hdG b,hdC b,hdN b,hdS b) else none
def hdA:Option (Nat×Nat×Nat×Nat)→Array Value
 | some (g,c,n,s)=>hdV g c n s
 | none=>hdV 0 0 0 0
def SHead (x p z f k n:Nat)(D:List Nat)(F:Nat→Prop)(c q:Nat)(w:World)(e:Ending)(w':World):Prop:= ∃j,e = .returned (.tuple #[.agg (hdA (hdOf (cut D (f*z) z) (k*z-z))),.int .i64 0])∧Pw w' p z n D F (c+j) q∧j≤3∧Kp F w w'
theorem shead_any (x p z f k n:Nat)(D:List Nat)(F:Nat→Prop)(c q:Nat)(w:World)(h:Rg w x p z f k)(hp:Pw w p z n D F c q)(hx:¬F x)(hc:c+10000000<1000000000)(hfk:f+k≤n)(hk:2≤k)(hT:Tab w)(hF1:∀b,F b→1<b):
 Calls Tryz.prog 104 #[.agg #[.pointer (some ⟨x,0,none⟩)]] w (SHead x p z f k n D F c q w):=by
 have hz:=hp.hz;have hn96:=hp.n96;have hkz:k*z≤96*4096:=Nat.mul_le_mul (by omega) hz.2;have h2z:2*z≤k*z:=Nat.mul_le_mul_right _ hk;obtain ⟨K,hK⟩:∃K,k*z=K:=⟨_,rfl⟩;have N:=new2 w (Obj.cells #[.pointer (some ⟨x,0,none⟩)] 164) (Obj.cells #[.int .u64 0,.int .u64 0,.int .i64 0,.int .u32 0] 88);obtain ⟨w0,hw0⟩:∃w0,(w.alloc (Obj.cells #[.pointer (some ⟨x,0,none⟩)] 164)).alloc (Obj.cells #[.int .u64 0,.int .u64 0,.int .i64 0,.int .u32 0] 88)=w0:=⟨_,rfl⟩;have HW0:=hid hw0;rw [hw0] at N;have HN:=hid N;have HR0:=hid (h.new N.2.2.2);have HP0:=hid (hp.new N.2.2.2);have HZ:=hid (And.intro hz (And.intro hn96 (And.intro hkz (And.intro h2z hfk))));have HK:=hid hK;have HC:=hid hc;have HT:=hid hT;have HF:=hid hp.flt;rw [hK] at hkz h2z;have HKB:Hid (K<1000000000):=hid (by omega);have HXB:=hid (heap_lt h);have k0:w0.cell? ⟨w.heap.size,0,none⟩=some (.pointer (some ⟨x,0,none⟩)):=(blk N.1).1 0;clear h hp hz hn96 hkz h2z hfk hc hT N hw0;go_enter Tryz.func104,Tryz.ntmps104;go_wp2_with fail;rw [HW0.out];have C69:Hid (∀m,Calls Tryz.prog 69 #[.pointer (some ⟨x,0,none⟩)] (w0.drewN m) fun e w'=>e = .returned (.int .i64 z)∧w0.drewN m=w'):=hid (fun m=>rsize_any x p z f k _ (HR0.out.new (below_drewN (Below.refl _ _) m)));have C105:Hid (∀m,Calls Tryz.prog 105 #[.pointer (some ⟨x,0,none⟩),.int .i64 0,.int .i64 z] (w0.drewN m) fun e w'=> ∃g cg j,e = .returned (.tuple #[.slice (some ⟨g,0,none⟩) z cg,.int .i64 0])∧Sl w' (.slice (some ⟨g,0,none⟩) z cg) (Lb (cut D (f*z) z))∧Pw w' p z n D F (c+j) q∧j≤3∧Kp F w0 w'∧w'.cell? ⟨w.heap.size,0,none⟩=some (.pointer (some ⟨x,0,none⟩))∧True):=hid (by
  intro m;have hz:=HZ.out;have hb:=below_drewN (Below.refl w0.heap.size w0) m;refine (rread_any x p z f k n D F c q 0 z _ (HR0.out.new hb) (HP0.out.new hb) hx HC.out hz.2.2.2.2 (by omega)).mono ?_;rintro e w' ⟨v',j,rfl,ho,hp',hj,hk'⟩;obtain ⟨g,cg,rfl,_,_⟩:=own_some ho (by omega);rw [Nat.div_self (by omega)] at hj;have hk2:Kp F w0 w':=((Kp.refl F w0).drewN m).trans hk';exact ⟨g,cg,j,rfl,Sl_of_own ho,hp',hj,hk2,(hk2.cell (p:=⟨w.heap.size,0,none⟩) (by have:=HN.out.2.2.1;show w.heap.size<w0.heap.size;omega) (fun e9=>by have:w.heap.size<w.heap.size:=HF.out w.heap.size e9;omega)).trans k0,trivial⟩)
 go_region_held_law (fun w'=>w'.cell? ⟨w.heap.size,0,none⟩=some (.pointer (some ⟨x,0,none⟩))∧True) (first | assumption | go_keep) (first | (go_at_call 69;refine (C69.out 1).mono ?_;rintro e w' ⟨rfl,rfl⟩) | (go_at_call 105;refine (C105.out 1).mono ?_;rintro e w1 ⟨g,cg,j,rfl,q1,q2,q3,q4,q5⟩;have Q1:=hid q1;have Q2:=hid q2;have Q3:=hid q3;have Q4:=hid q4;clear q1 q2 q3 q4))
 all_goals
  have hzz:=HZ.out;have hbb:(cut D (f*z) z).length = z:=cut_len (by rw [HP0.out.len];have:(f+1)*z≤n*z:=Nat.mul_le_mul_right _ (by omega);rw [Nat.add_mul] at this;omega);obtain ⟨b,hb⟩:∃b,cut D (f*z) z=b:=⟨_,rfl⟩;have HBB:=hid hb;have HBL:=hid hbb;have hRd:=hread_any _ (cut D (f*z) z) w1 Q1.out (fun y hy=>Q2.out.bs y (List.mem_of_mem_drop (List.mem_of_mem_take hy))) (by omega) (by omega) ((HT.out.below HN.out.2.2.2 HT.out.size).kp Q4.out (fun e=>by have:=hF1 1 e;omega));rw [hb] at hRd;have HRD:=hid hRd;clear hRd hb hbb hzz q5;go_wp2_with fail;refine HRD.out.mono ?_;rintro e w2 ⟨c9,f9,rfl,hcase,hb2⟩;have hx1:w1.heap[w.heap.size]?=some (Obj.cells #[.pointer (some ⟨x,0,none⟩)] 164 (0,0)):=Q4.out.blk HN.out.1 (fun e9=>by have:w.heap.size<w.heap.size:=HF.out _ e9;omega);have hx2:=Bl.blk hb2 hx1;have hr1:w1.heap[w.heap.size+1]?=some (Obj.cells #[.int .u64 0,.int .u64 0,.int .i64 0,.int .u32 0] 88 (0,0)):=Q4.out.blk HN.out.2.1 (fun e9=>by have:w.heap.size+1<w.heap.size:=HF.out _ e9;omega);have hr2:=Bl.blk hb2 hr1;have HP2:=hid (Q2.out.new hb2);have HR2:=hid ((HR0.out.kp Q4.out hx).new hb2);have HK2:Hid (Kp F w w2):=hid (((Kp.of_new HN.out.2.2.2).trans Q4.out).trans (Kp.of_new hb2));have HX2:=hid hx2;have HRR2:=hid hr2;clear hx1 hr1 hx2 hr2 hb2;have G:Hid (∀W' w',Below w2.heap.size w2 W'→Kp (· = w.heap.size+1) W' w'→Pw w' p z n D F (c+j) q∧Kp F w w'):=hid (by
   intro W' w' hb9 hk';exact ⟨(HP2.out.new hb9).stay hk' (fun y hy e=>by have h9:y=w.heap.size+1:=e;have:=HF.out y hy;omega),(HK2.out.trans (Kp.of_new hb9)).then hk' (fun y hy=>Or.inr (by have h9:y=w.heap.size+1:=hy;omega))⟩)
  rcases hcase with ⟨hg,rfl,rfl⟩ | ⟨hg,hf,rfl⟩
  ·unfold hdV;have hN2:=new1 w2 (Obj.cells #[.int .u64 (hdG b:Int),.int .u64 (hdC b:Int),.int .i64 (hdN b:Int),.int .u32 (hdS b:Int)] 88);obtain ⟨W,hW⟩:∃W,w2.alloc (Obj.cells #[.int .u64 (hdG b:Int),.int .u64 (hdC b:Int),.int .i64 (hdN b:Int),.int .u32 (hdS b:Int)] 88)=W:=⟨_,rfl⟩;have HW:=hid hW;rw [hW] at hN2;have hHR:=HR2.out.new hN2.2.2;have HHR:=hid hHR;have HBW1:=hid hN2.2.2;have HRW1:=hid (Bl.blk hN2.2.2 HRR2.out);have kx:W.cell? ⟨w.heap.size,0,none⟩=some (.pointer (some ⟨x,0,none⟩)):=(blk (Bl.blk hN2.2.2 HX2.out)).1 0;have HHW:=hid hN2.1;obtain ⟨m0,_,m1,_,m2,_,m3,_⟩:=cells4 hN2.1;have hzz:=HZ.out;have HGG:=hid hg;have hKz:IntKind.i64.wrap ((K:Int)-(z:Int))=((K-z:Nat):Int):=by rw [IntKind.wrap_i64];have:=HKB.out;have:=HK.out;omega
   have hKz':(K:Int)-(z:Int)=((K-z:Nat):Int):=by have:=HK.out;omega
   obtain ⟨V,hV⟩:∃V,K-z=V:=⟨_,rfl⟩;rw [hV] at hKz hKz';have HV:=hid hV;have hVb:V≤1000000000:=by have:=HKB.out;omega
   clear hN2 hW hHR hzz hg hV;go_wp2_with fail;rw [HW.out];by_cases hle:hdN b≤V
   ·have d1:decide ((hdN b:Int)>(V:Int))=false:=by simp;omega
    have d2:decide ((V:Int)<(hdN b:Int))=false:=by simp;omega
    have d3:decide (V<hdN b)=false:=by simp;omega
    have HLE:=hid hle;clear hle;go_quiet (first | (go_at_call 72;exact Calls.quiet_of ((rbytes_any x p z f k K _ (HHR.out.new (below_drewN (Below.refl _ _) _)) HK.out HKB.out).mono (fun _ _ ⟨m,h1,h2⟩=>⟨h1,m,h2⟩))) | (go_at_call 69;exact Calls.quiet_of_same ((rsize_any x p z f k _ (HHR.out.new (below_drewN (Below.refl _ _) _))).mono (fun _ _ h=>⟨h.1,h.2.symm⟩))))
    have hBW:=below_drewN HBW1.out nq;obtain ⟨W2,hW2⟩:∃W2,W.drewN nq=W2:=⟨_,rfl⟩;rw [hW2] at hBW ⊢;have HBW:=hid hBW;have hRW:W2.heap[w.heap.size+1]?=some (Obj.cells #[.int .u64 0,.int .u64 0,.int .i64 0,.int .u32 0] 88 (0,0)):=Bl.blk hBW HRR2.out;have HRW:=hid hRW;have hHW:W2.heap[w2.heap.size]?=some (Obj.cells #[.int .u64 (hdG b:Int),.int .u64 (hdC b:Int),.int .i64 (hdN b:Int),.int .u32 (hdS b:Int)] 88 (0,0)):=by rw [←hW2];exact HHW.out
    obtain ⟨r0,g0,r1,g1,r2,g2,r3,g3⟩:=cells4 hRW;obtain ⟨n0,_,n1,_,n2,_,n3,_⟩:=cells4 hHW;clear hBW hW2 hRW hHW m0 m1 m2 m3 kx;go_wp2_with fail;refine bodyPost_ret (results_row2 rfl _ _ _ _ _ _ _ rfl (rset4 HRW.out) Tryz.underlying88 rfl (by kernel_rfl)) rfl ?_;obtain ⟨y1,y2⟩:=G.out _ _ HBW.out (rset4_kp (Kp.refl (· = w.heap.size+1) _) rfl _ _ _ _);exact ⟨j,by rw [HBB.out,HK.out,HV.out];unfold hdOf;rw [if_pos ⟨HGG.out,HLE.out⟩];rfl,y1,Q3.out,y2⟩
   ·have d1:decide ((hdN b:Int)>(V:Int))=true:=by simp;omega
    have d2:decide ((V:Int)<(hdN b:Int))=true:=by simp;omega
    have d3:decide (V<hdN b)=true:=by simp;omega
    have HLE:=hid hle;clear hle;go_quiet (first | (go_at_call 72;exact Calls.quiet_of ((rbytes_any x p z f k K _ (HHR.out.new (below_drewN (Below.refl _ _) _)) HK.out HKB.out).mono (fun _ _ ⟨m,h1,h2⟩=>⟨h1,m,h2⟩))) | (go_at_call 69;exact Calls.quiet_of_same ((rsize_any x p z f k _ (HHR.out.new (below_drewN (Below.refl _ _) _))).mono (fun _ _ h=>⟨h.1,h.2.symm⟩))))
    have hBW:=below_drewN HBW1.out nq;obtain ⟨W2,hW2⟩:∃W2,W.drewN nq=W2:=⟨_,rfl⟩;rw [hW2] at hBW ⊢;have HBW:=hid hBW;have hRW:W2.heap[w.heap.size+1]?=some (Obj.cells #[.int .u64 0,.int .u64 0,.int .i64 0,.int .u32 0] 88 (0,0)):=Bl.blk hBW HRR2.out;have HRW:=hid hRW;have hHW:W2.heap[w2.heap.size]?=some (Obj.cells #[.int .u64 (hdG b:Int),.int .u64 (hdC b:Int),.int .i64 (hdN b:Int),.int .u32 (hdS b:Int)] 88 (0,0)):=by rw [←hW2];exact HHW.out
    obtain ⟨r0,g0,r1,g1,r2,g2,r3,g3⟩:=cells4 hRW;obtain ⟨n0,_,n1,_,n2,_,n3,_⟩:=cells4 hHW;clear hBW hW2 hRW hHW m0 m1 m2 m3 kx;go_wp2_with fail;refine bodyPost_ret (results_row2 rfl _ _ _ _ _ _ _ rfl (rset4 HRW.out) Tryz.underlying88 rfl (by kernel_rfl)) rfl ?_;obtain ⟨y1,y2⟩:=G.out _ _ HBW.out (rset4_kp (Kp.refl (· = w.heap.size+1) _) rfl _ _ _ _);exact ⟨j,by rw [HBB.out,HK.out,HV.out];unfold hdOf;rw [if_neg (fun h=>HLE.out h.2)];rfl,y1,Q3.out,y2⟩
  ·unfold hdV;have hf1:(f9 == 0)=false:=by simpa using hf
   have hf2:(f9 != 0)=true:=by simpa using hf
   have hN2:=new1 w2 (Obj.cells #[.int .u64 0,.int .u64 0,.int .i64 0,.int .u32 0] 88);have HN2:=hid hN2;have HG:=hid hg;clear hN2 hf hg;go_wp2_with fail;refine wp_region_any (by kernel_rfl) ?_;change wpAny _ _ _ _ _ _ _ (World.drew _)
   refine takeAt (i:=0) (d:=some 26) (v:=?_) rfl rfl (by kernel_rfl) (by kernel_rfl) (by kernel_rfl) (fun _ _ _ h=>h) (Or.inl ⟨rfl,fun w9=>?_⟩) ?_;rotate_left
   ·go_simp;try with_reducible rfl
   simp only [Act.put,List.setIfInBounds_toArray,List.set_cons_zero,List.set_cons_succ];refine takeAt (i:=1) (d:=some 27) (v:=?_) rfl rfl (by kernel_rfl) (by kernel_rfl) (by kernel_rfl) (fun _ _ _ h=>h) (Or.inl ⟨rfl,fun w9=>?_⟩) ?_;rotate_left
   ·go_simp;try with_reducible rfl
   simp only [Act.put,List.setIfInBounds_toArray,List.set_cons_zero,List.set_cons_succ];refine takeAt (i:=2) (d:=some 28) (v:=?_) rfl rfl (by kernel_rfl) (by kernel_rfl) (by kernel_rfl) (fun _ _ _ h=>h) (Or.inl ⟨rfl,fun w9=>?_⟩) ?_;rotate_left
   ·go_simp;try with_reducible rfl
   simp only [Act.put,List.setIfInBounds_toArray,List.set_cons_zero,List.set_cons_succ];refine takeAt (i:=3) (d:=some 29) (v:=undef) rfl rfl (by kernel_rfl) (by kernel_rfl) (by kernel_rfl) (fun _ _ _ h=>h) (Or.inr ⟨rfl,rfl⟩) ?_;simp only [Act.put,List.setIfInBounds_toArray,List.set_cons_zero,List.set_cons_succ];refine takeAt (i:=4) (d:=some 30) (v:=undef) rfl rfl (by kernel_rfl) (by kernel_rfl) (by kernel_rfl) (fun _ _ _ h=>h) (Or.inr ⟨rfl,rfl⟩) ?_;simp only [Act.put,List.setIfInBounds_toArray,List.set_cons_zero,List.set_cons_succ];refine takeAt (i:=5) (d:=some 31) (v:=undef) rfl rfl (by kernel_rfl) (by kernel_rfl) (by kernel_rfl) (fun _ _ _ h=>h) (Or.inr ⟨rfl,rfl⟩) ?_;simp only [Act.put,List.setIfInBounds_toArray,List.set_cons_zero,List.set_cons_succ];refine takeAt (i:=6) (d:=some 32) (v:=undef) rfl rfl (by kernel_rfl) (by kernel_rfl) (by kernel_rfl) (fun _ _ _ h=>h) (Or.inr ⟨rfl,rfl⟩) ?_;simp only [Act.put,List.setIfInBounds_toArray,List.set_cons_zero,List.set_cons_succ];refine takeAt (i:=7) (d:=some 33) (v:=undef) rfl rfl (by kernel_rfl) (by kernel_rfl) (by kernel_rfl) (fun _ _ _ h=>h) (Or.inr ⟨rfl,rfl⟩) ?_;simp only [Act.put,List.setIfInBounds_toArray,List.set_cons_zero,List.set_cons_succ];refine takeAt (i:=8) (d:=some 34) (v:=undef) rfl rfl (by kernel_rfl) (by kernel_rfl) (by kernel_rfl) (fun _ _ _ h=>h) (Or.inr ⟨rfl,rfl⟩) ?_;simp only [Act.put,List.setIfInBounds_toArray,List.set_cons_zero,List.set_cons_succ];refine takeAt (i:=9) (d:=some 35) (v:=undef) rfl rfl (by kernel_rfl) (by kernel_rfl) (by kernel_rfl) (fun _ _ _ h=>h) (Or.inr ⟨rfl,rfl⟩) ?_;simp only [Act.put,List.setIfInBounds_toArray,List.set_cons_zero,List.set_cons_succ];refine takeAt (i:=10) (d:=some 36) (v:=undef) rfl rfl (by kernel_rfl) (by kernel_rfl) (by kernel_rfl) (fun _ _ _ h=>h) (Or.inr ⟨rfl,rfl⟩) ?_;simp only [Act.put,List.setIfInBounds_toArray,List.set_cons_zero,List.set_cons_succ];refine takeAt (i:=11) (d:=some 37) (v:=undef) rfl rfl (by kernel_rfl) (by kernel_rfl) (by kernel_rfl) (fun _ _ _ h=>h) (Or.inr ⟨rfl,rfl⟩) ?_;simp only [Act.put,List.setIfInBounds_toArray,List.set_cons_zero,List.set_cons_succ];refine takeAt (i:=12) (d:=some 38) (v:=undef) rfl rfl (by kernel_rfl) (by kernel_rfl) (by kernel_rfl) (fun _ _ _ h=>h) (Or.inr ⟨rfl,rfl⟩) ?_;simp only [Act.put,List.setIfInBounds_toArray,List.set_cons_zero,List.set_cons_succ];refine takeAt (i:=13) (d:=some 39) (v:=?_) rfl rfl (by kernel_rfl) (by kernel_rfl) (by kernel_rfl) (fun _ _ _ h=>h) (Or.inl ⟨rfl,fun w9=>?_⟩) ?_;rotate_left
   ·go_simp;try with_reducible rfl
   simp only [Act.put,List.setIfInBounds_toArray,List.set_cons_zero,List.set_cons_succ];refine wpAny_done (by kernel_rfl) ?_ _;have hBW:=below_drew HN2.out.2.2;obtain ⟨W,hW⟩:∃W,(w2.alloc (Obj.cells #[.int .u64 0,.int .u64 0,.int .i64 0,.int .u32 0] 88)).drew = W:=⟨_,rfl⟩;rw [hW] at hBW ⊢;have HBW:=hid hBW;have hRW:W.heap[w.heap.size+1]?=some (Obj.cells #[.int .u64 0,.int .u64 0,.int .i64 0,.int .u32 0] 88 (0,0)):=Bl.blk hBW HRR2.out;clear hBW hW;have HRW:=hid hRW;obtain ⟨r0,g0,r1,g1,r2,g2,r3,g3⟩:=cells4 hRW;clear hRW hf1 hf2;go_wp2_with fail;refine bodyPost_ret (results_row2 rfl _ _ _ _ _ _ _ rfl (rset4 HRW.out) Tryz.underlying88 rfl (by kernel_rfl)) rfl ?_;obtain ⟨y1,y2⟩:=G.out _ _ HBW.out (rset4_kp (Kp.refl (· = w.heap.size+1) _) rfl _ _ _ _);exact ⟨j,by rw [HBB.out];unfold hdOf;rw [if_neg (fun h=>HG.out h.1)];rfl,y1,Q3.out,y2⟩
end
end Go.Proofs.YtdjiopacieadpaaGreatDoor
namespace SlotPlain
section
abbrev Sl:=Nat×Nat×List Nat
def pick (a b:Option Sl):Option (Nat×Sl):=
 match a,b with
 | none,none=>none
 | some x,none=>some (0,x)
 | none,some y=>some (1,y)
 | some x,some y=>if x.1<y.1 then some (1,y) else some (0,x)
def gen (a b:Option Sl):Nat:=match pick a b with | none=>0 | some (_,x)=>x.1
def cov (a b:Option Sl):Nat:=match pick a b with | none=>0 | some (_,x)=>x.2.1
def other (a b:Option Sl):Nat:=match pick a b with | some (0,_)=>1 | _=>0
def saved (a b:Option Sl)(c:Nat)(body:List Nat):Option Sl×Option Sl:=
 if other a b=0 then (some (gen a b+1,c,body),b) else (a,some (gen a b+1,c,body))
end
end SlotPlain
