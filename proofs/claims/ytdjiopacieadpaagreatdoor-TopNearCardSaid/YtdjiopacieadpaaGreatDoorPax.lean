/- TopNear: part Pax: ReqO ReqG. -/
import Derived.Test.YtdjiopacieadpaaGreatDoorPaw
set_option linter.unusedVariables false
set_option linter.unusedSimpArgs false
set_option maxRecDepth 8000
set_option maxHeartbeats 8000000
namespace Go.Proofs.YtdjiopacieadpaaGreatDoor
section
open Go.RowKit
open BookPlain (Rp Rq)
def fsF (k:Nat):List Nat:=if k=1 then [1,2] else if k=2∨k=3∨k=5 then [0] else if k=4 then [0,1] else if k=6 then [1] else if k=7 then [2] else []
def Lq (l:List Nat):List Value:=l.map fun (b:Nat)=>Value.int .i64 b
def rkB (k:Nat):Bool:=decide (1≤k∧k≤10)
theorem Sl_new {w:World}{b:Nat}{C:Array Value}{t:TypeId}(h:w.heap[b]?=some (.cells C t (0,0)))(hm:C.size≤100):Sl w (.slice (some ⟨b,0,none⟩) C.size C.size) C.toList:=by
 refine ⟨_,_,rfl,by simp,by unfold maxLen;omega,Or.inr ⟨b,0,rfl,heap_lt h,fun j u hj=>?_⟩⟩;rw [(blk h).1,Nat.zero_add];simpa using hj
theorem fsF_le (k:Nat):∀f∈fsF k,f≤2:=by
 unfold fsF;intro f hf;repeat' split at hf
 all_goals simp at hf
 all_goals omega
theorem fsF_len (k:Nat):(fsF k).length ≤2:=by
 unfold fsF;repeat' split
 all_goals simp
def ReqOf (k:Nat)(w:World)(o:Ending)(w':World):Prop:= ∃v,o = .returned (.tuple #[v,.bool (rkB k)])∧Sl w' v (Lq (fsF k))∧(∀b,v.ownBlock=some b→w.heap.size≤b∧b<w'.heap.size)∧Below w.heap.size w w'
theorem reqof_1 (w:World):Calls Tryz.prog 44 #[.int .i64 1] w (ReqOf 1 w):=by
 go_enter Tryz.func44,Tryz.ntmps44;go_wp2;go_ret2;exact ⟨_,rfl,Sl_new (heap_alloc_new w (.cells #[.int .i64 1,.int .i64 2] 3)) (by decide),(fun b hb=>by have h9:some w.heap.size=some b:=hb;injection h9 with h9;exact ⟨by omega,by simp;omega⟩),(Below.refl _ w).alloc (Nat.le_refl _) _⟩
theorem reqof_2 (w:World):Calls Tryz.prog 44 #[.int .i64 2] w (ReqOf 2 w):=by
 go_enter Tryz.func44,Tryz.ntmps44;go_wp2;go_ret2;exact ⟨_,rfl,Sl_new (heap_alloc_new w (.cells #[.int .i64 0] 3)) (by decide),(fun b hb=>by have h9:some w.heap.size=some b:=hb;injection h9 with h9;exact ⟨by omega,by simp;omega⟩),(Below.refl _ w).alloc (Nat.le_refl _) _⟩
theorem reqof_3 (w:World):Calls Tryz.prog 44 #[.int .i64 3] w (ReqOf 3 w):=by
 go_enter Tryz.func44,Tryz.ntmps44;go_wp2;go_ret2;exact ⟨_,rfl,Sl_new (heap_alloc_new w (.cells #[.int .i64 0] 3)) (by decide),(fun b hb=>by have h9:some w.heap.size=some b:=hb;injection h9 with h9;exact ⟨by omega,by simp;omega⟩),(Below.refl _ w).alloc (Nat.le_refl _) _⟩
theorem reqof_4 (w:World):Calls Tryz.prog 44 #[.int .i64 4] w (ReqOf 4 w):=by
 go_enter Tryz.func44,Tryz.ntmps44;go_wp2;go_ret2;exact ⟨_,rfl,Sl_new (heap_alloc_new w (.cells #[.int .i64 0,.int .i64 1] 3)) (by decide),(fun b hb=>by have h9:some w.heap.size=some b:=hb;injection h9 with h9;exact ⟨by omega,by simp;omega⟩),(Below.refl _ w).alloc (Nat.le_refl _) _⟩
theorem reqof_5 (w:World):Calls Tryz.prog 44 #[.int .i64 5] w (ReqOf 5 w):=by
 go_enter Tryz.func44,Tryz.ntmps44;go_wp2;go_ret2;exact ⟨_,rfl,Sl_new (heap_alloc_new w (.cells #[.int .i64 0] 3)) (by decide),(fun b hb=>by have h9:some w.heap.size=some b:=hb;injection h9 with h9;exact ⟨by omega,by simp;omega⟩),(Below.refl _ w).alloc (Nat.le_refl _) _⟩
theorem reqof_6 (w:World):Calls Tryz.prog 44 #[.int .i64 6] w (ReqOf 6 w):=by
 go_enter Tryz.func44,Tryz.ntmps44;go_wp2;go_ret2;exact ⟨_,rfl,Sl_new (heap_alloc_new w (.cells #[.int .i64 1] 3)) (by decide),(fun b hb=>by have h9:some w.heap.size=some b:=hb;injection h9 with h9;exact ⟨by omega,by simp;omega⟩),(Below.refl _ w).alloc (Nat.le_refl _) _⟩
theorem reqof_7 (w:World):Calls Tryz.prog 44 #[.int .i64 7] w (ReqOf 7 w):=by
 go_enter Tryz.func44,Tryz.ntmps44;go_wp2;go_ret2;exact ⟨_,rfl,Sl_new (heap_alloc_new w (.cells #[.int .i64 2] 3)) (by decide),(fun b hb=>by have h9:some w.heap.size=some b:=hb;injection h9 with h9;exact ⟨by omega,by simp;omega⟩),(Below.refl _ w).alloc (Nat.le_refl _) _⟩
theorem reqof_8 (w:World):Calls Tryz.prog 44 #[.int .i64 8] w (ReqOf 8 w):=by
 go_enter Tryz.func44,Tryz.ntmps44;go_wp2;go_ret2;exact ⟨_,rfl,Sl_nil _,(fun b hb=>by cases hb),Below.refl _ _⟩
theorem reqof_9 (w:World):Calls Tryz.prog 44 #[.int .i64 9] w (ReqOf 9 w):=by
 go_enter Tryz.func44,Tryz.ntmps44;go_wp2;go_ret2;exact ⟨_,rfl,Sl_nil _,(fun b hb=>by cases hb),Below.refl _ _⟩
theorem reqof_10 (w:World):Calls Tryz.prog 44 #[.int .i64 10] w (ReqOf 10 w):=by
 go_enter Tryz.func44,Tryz.ntmps44;go_wp2;go_ret2;exact ⟨_,rfl,Sl_nil _,(fun b hb=>by cases hb),Below.refl _ _⟩
theorem reqof_no (k:Nat)(w:World)(h:¬(1≤k∧k≤10)):Calls Tryz.prog 44 #[.int .i64 k] w (ReqOf k w):=by
 have hr:rkB k=false:=by unfold rkB;rw [decide_eq_false_iff_not];exact h
 have hf:fsF k=[]:=by
  unfold fsF;rw [if_neg (by omega),if_neg (by omega),if_neg (by omega),if_neg (by omega),if_neg (by omega)]
 have h1:((k:Int) == 1)=false:=by simp;omega
 have h2:((k:Int) == 2)=false:=by simp;omega
 have h3:((k:Int) == 3)=false:=by simp;omega
 have h4:((k:Int) == 4)=false:=by simp;omega
 have h5:((k:Int) == 5)=false:=by simp;omega
 have h6:((k:Int) == 6)=false:=by simp;omega
 have h7:((k:Int) == 7)=false:=by simp;omega
 have h8:((k:Int) == 8)=false:=by simp;omega
 have h9:((k:Int) == 9)=false:=by simp;omega
 have h10:((k:Int) == 10)=false:=by simp;omega
 unfold ReqOf;rw [hr,hf];clear hr hf h;go_enter Tryz.func44,Tryz.ntmps44;go_wp2;go_ret2;exact ⟨_,rfl,Sl_nil _,(fun b hb=>by cases hb),Below.refl _ _⟩
theorem reqof_any (k:Nat)(w:World):Calls Tryz.prog 44 #[.int .i64 k] w (ReqOf k w):=by
 by_cases h:1≤k∧k≤10
 ·obtain e | e | e | e | e | e | e | e | e | e:k=1∨k=2∨k=3∨k=4∨k=5∨k=6∨k=7∨k=8∨k=9∨k=10:=by omega
  all_goals subst e
  ·exact reqof_1 w
  ·exact reqof_2 w
  ·exact reqof_3 w
  ·exact reqof_4 w
  ·exact reqof_5 w
  ·exact reqof_6 w
  ·exact reqof_7 w
  ·exact reqof_8 w
  ·exact reqof_9 w
  ·exact reqof_10 w
 ·exact reqof_no k w h
def fldC:Array Value:=#[.func (.func 89) #[] #[],.func (.func 90) #[] #[],.func (.func 91) #[] #[],.func (.func 92) #[] #[],.func (.func 93) #[] #[],.func (.func 94) #[] #[],.func (.func 95) #[] #[],.func (.func 96) #[] #[],.func (.func 97) #[] #[]]
theorem fields_any (w:World):Calls Tryz.prog 45 #[] w fun o w'=>o = .returned (.agg fldC)∧Below w.heap.size w w':=by
 unfold fldC;go_enter Tryz.func45,Tryz.ntmps45;go_wp2_with (refine wpList_store_all rfl 123 _ _ rfl w.heap.size 123 _ _ rfl rfl (new1 _ _).1 rfl (by kernel_rfl) (by simp [Value.oneCell']) ?_;intro w1 hb1 hs1 hk1;have HB:=hid ((new1 _ _).2.2.trans (hk1.below (B:=w.heap.size) (by simp) (fun i hi=>by omega)));clear hs1 hk1);refine bodyPost_ret (results_cell_row rfl _ _ _ _ _ _ _ rfl hb1 Tryz.underlying123 rfl (by kernel_rfl)) rfl ⟨rfl,HB.out⟩
theorem zero0 (k t s:Nat)(i u:Int)(w:World):Calls Tryz.prog 91 #[.agg #[.int .i64 k,.int .u32 t,.int .u32 i,.int .i64 s,.int .i64 u]] w fun o w'=>o = .returned (.bool (i == 0))∧Below w.heap.size w w':=by
 go_enter Tryz.func91,Tryz.ntmps91;go_wp2;go_ret;exact ⟨rfl,(Below.refl _ w).alloc (Nat.le_refl _) _⟩
theorem zero1 (k t i:Nat)(s u:Int)(w:World):Calls Tryz.prog 94 #[.agg #[.int .i64 k,.int .u32 t,.int .u32 i,.int .i64 s,.int .i64 u]] w fun o w'=>o = .returned (.bool (s == 0))∧Below w.heap.size w w':=by
 go_enter Tryz.func94,Tryz.ntmps94;go_wp2;go_ret;exact ⟨rfl,(Below.refl _ w).alloc (Nat.le_refl _) _⟩
theorem zero2 (k t i s:Nat)(u:Int)(w:World):Calls Tryz.prog 97 #[.agg #[.int .i64 k,.int .u32 t,.int .u32 i,.int .i64 s,.int .i64 u]] w fun o w'=>o = .returned (.bool (u == 0))∧Below w.heap.size w w':=by
 go_enter Tryz.func97,Tryz.ntmps97;go_wp2;go_ret;exact ⟨rfl,(Below.refl _ w).alloc (Nat.le_refl _) _⟩
theorem putf0 (p:Nat)(l:List Nat)(k t n:Nat)(s u:Int)(w:World)(hW:Wr w p l)(hn:n<4294967296)(hlen:l.length≤1000):Calls Tryz.prog 89 #[.pointer (some ⟨p,0,none⟩),.agg #[.int .i64 k,.int .u32 t,.int .u32 n,.int .i64 s,.int .i64 u]] w fun o w'=>o = .returned (.tuple #[])∧Wr w' p (l++le n 4)∧Kp (· = p) w w':=by
 have HN:=hid hn;have HW:=hid hW;have HL:=hid hlen;clear hn hW hlen;go_enter Tryz.func89,Tryz.ntmps89;go_wp2_with fail;refine at_new1 ?_;intro w0 p0 ns nb;refine (four_any p l n _ (HW.out.below nb (Nat.le_refl _)) (by have:=HN.out;omega) (by have:=HL.out;omega)).mono ?_;rintro o w1 ⟨rfl,h1,h2⟩;have H1:=hid h1;have H2:=hid ((Kp.of_new (F:=(· = p)) nb).trans h2);clear h1 h2 p0 ns nb;go_wp2_with fail;go_end0
 exact ⟨rfl,H1.out,H2.out⟩
theorem getf0 (r q V:Nat)(l:List Nat)(e:Nat)(c0 c1 c2 c3 c4:Value)(ty:TypeId)(w:World)(hR:Rd w r q l e)(hl:Bs l)(hV:w.heap[V]?=some (.cells #[c0,c1,c2,c3,c4] ty (0,0)))(hrV:r<V)(hqV:q<V):Calls Tryz.prog 90 #[.pointer (some ⟨r,0,none⟩),.pointer (some ⟨V,0,none⟩)] w fun o w'=>o = .returned (.tuple #[])∧Rd w' r q (tkL l e 4) (tkE l e 4)∧(∃v,v = .int .u32 (ofLe (tkB l e 4):Int)∧w'.heap[V]?=some (.cells #[c0,c1,v,c3,c4] ty (0,0)))∧Kp (fun b=>b=q∨b=V) w w':=by
 obtain ⟨X,hX⟩:∃x,ofLe (tkB l e 4)=x:=⟨_,rfl⟩;have hXb:X<256 ^ 4:=by
  rw [←hX];have h1:=(tk_bytes hl e 4).1;have h2:=(tk_bytes hl e 4).2.2;have h3:=ofLe_lt h1;have h4:256 ^ (tkB l e 4).length ≤256 ^ 4:=Nat.pow_le_pow_right (by omega) h2;omega
 simp only [Nat.reducePow] at hXb;have HX:=hid hX;have HV:=hid hV;have HR:=hid hR;have HL:=hid hl;clear hX hXb hV hR hl;go_enter Tryz.func90,Tryz.ntmps90;go_wp2_with fail;refine (rfour_any r q l e _ HR.out HL.out).mono ?_;rintro o w1 ⟨rfl,hR,hK⟩;rw [HX.out];have h2:=hK.blk HV.out (by omega);have HV1:=hid h2;have HR1:=hid hR;have HK1:=hid hK;obtain ⟨_,_,_,_,_,_,_,_,_,_⟩:=cells5 HV1.out;clear h2 hR hK;go_wp2_with fail;go_end0
 have hkb:=(Kp.refl (· = V) w1).setCell (p:=⟨V,2,none⟩) rfl (.int .u32 X);exact ⟨rfl,HR1.out.kp hkb (fun i hi=>by omega),⟨_,by rw [HX.out],heap_setCell_same w1 V 2 _ ty (.int .u32 X) HV1.out⟩,(HK1.out.mono (fun i hi=>Or.inl hi)).trans (hkb.mono (fun i hi=>Or.inr hi))⟩
theorem putf1 (p:Nat)(l:List Nat)(k t n:Nat)(i u:Int)(w:World)(hW:Wr w p l)(hn:n<65536)(hlen:l.length≤1000):Calls Tryz.prog 92 #[.pointer (some ⟨p,0,none⟩),.agg #[.int .i64 k,.int .u32 t,.int .u32 i,.int .i64 n,.int .i64 u]] w fun o w'=>o = .returned (.tuple #[])∧Wr w' p (l++le n 2)∧Kp (· = p) w w':=by
 have W:IntKind.u16.wrap (n:Int)=(n:Int):=by rw [IntKind.wrap_u16];omega
 have HN:=hid hn;have HW:=hid hW;have HL:=hid hlen;clear hn hW hlen;go_enter Tryz.func92,Tryz.ntmps92;go_wp2_with fail;refine at_new1 ?_;intro w0 p0 ns nb;refine (two_any p l n _ (HW.out.below nb (Nat.le_refl _)) (by have:=HN.out;omega) (by have:=HL.out;omega)).mono ?_;rintro o w1 ⟨rfl,h1,h2⟩;have H1:=hid h1;have H2:=hid ((Kp.of_new (F:=(· = p)) nb).trans h2);clear h1 h2 p0 ns nb;go_wp2_with fail;go_end0
 exact ⟨rfl,H1.out,H2.out⟩
theorem getf1 (r q V:Nat)(l:List Nat)(e:Nat)(c0 c1 c2 c3 c4:Value)(ty:TypeId)(w:World)(hR:Rd w r q l e)(hl:Bs l)(hV:w.heap[V]?=some (.cells #[c0,c1,c2,c3,c4] ty (0,0)))(hrV:r<V)(hqV:q<V):Calls Tryz.prog 93 #[.pointer (some ⟨r,0,none⟩),.pointer (some ⟨V,0,none⟩)] w fun o w'=>o = .returned (.tuple #[])∧Rd w' r q (tkL l e 2) (tkE l e 2)∧(∃v,v = .int .i64 (ofLe (tkB l e 2):Int)∧w'.heap[V]?=some (.cells #[c0,c1,c2,v,c4] ty (0,0)))∧Kp (fun b=>b=q∨b=V) w w':=by
 obtain ⟨X,hX⟩:∃x,ofLe (tkB l e 2)=x:=⟨_,rfl⟩;have hXb:X<256 ^ 2:=by
  rw [←hX];have h1:=(tk_bytes hl e 2).1;have h2:=(tk_bytes hl e 2).2.2;have h3:=ofLe_lt h1;have h4:256 ^ (tkB l e 2).length ≤256 ^ 2:=Nat.pow_le_pow_right (by omega) h2;omega
 simp only [Nat.reducePow] at hXb;have W:IntKind.i64.wrap (X:Int)=(X:Int):=by rw [IntKind.wrap_i64];omega
 have HX:=hid hX;have HV:=hid hV;have HR:=hid hR;have HL:=hid hl;clear hX hXb hV hR hl;go_enter Tryz.func93,Tryz.ntmps93;go_wp2_with fail;refine (rtwo_any r q l e _ HR.out HL.out).mono ?_;rintro o w1 ⟨rfl,hR,hK⟩;rw [HX.out];have h2:=hK.blk HV.out (by omega);have HV1:=hid h2;have HR1:=hid hR;have HK1:=hid hK;obtain ⟨_,_,_,_,_,_,_,_,_,_⟩:=cells5 HV1.out;clear h2 hR hK;go_wp2_with fail;go_end0
 have hkb:=(Kp.refl (· = V) w1).setCell (p:=⟨V,3,none⟩) rfl (.int .i64 X);exact ⟨rfl,HR1.out.kp hkb (fun i hi=>by omega),⟨_,by rw [HX.out],heap_setCell_same w1 V 3 _ ty (.int .i64 X) HV1.out⟩,(HK1.out.mono (fun i hi=>Or.inl hi)).trans (hkb.mono (fun i hi=>Or.inr hi))⟩
theorem putf2 (p:Nat)(l:List Nat)(k t n:Nat)(i s:Int)(w:World)(hW:Wr w p l)(hn:n<9223372036854775808)(hlen:l.length≤1000):Calls Tryz.prog 95 #[.pointer (some ⟨p,0,none⟩),.agg #[.int .i64 k,.int .u32 t,.int .u32 i,.int .i64 s,.int .i64 n]] w fun o w'=>o = .returned (.tuple #[])∧Wr w' p (l++le n 8)∧Kp (· = p) w w':=by
 have W:IntKind.u64.wrap (n:Int)=(n:Int):=by rw [IntKind.wrap_u64];omega
 have HN:=hid hn;have HW:=hid hW;have HL:=hid hlen;clear hn hW hlen;go_enter Tryz.func95,Tryz.ntmps95;go_wp2_with fail;refine at_new1 ?_;intro w0 p0 ns nb;refine (eight_any p l n _ (HW.out.below nb (Nat.le_refl _)) (by have:=HN.out;omega) (by have:=HL.out;omega)).mono ?_;rintro o w1 ⟨rfl,h1,h2⟩;have H1:=hid h1;have H2:=hid ((Kp.of_new (F:=(· = p)) nb).trans h2);clear h1 h2 p0 ns nb;go_wp2_with fail;go_end0
 exact ⟨rfl,H1.out,H2.out⟩
theorem getf2 (r q V:Nat)(l:List Nat)(e:Nat)(c0 c1 c2 c3 c4:Value)(ty:TypeId)(w:World)(hR:Rd w r q l e)(hl:Bs l)(hV:w.heap[V]?=some (.cells #[c0,c1,c2,c3,c4] ty (0,0)))(hrV:r<V)(hqV:q<V):Calls Tryz.prog 96 #[.pointer (some ⟨r,0,none⟩),.pointer (some ⟨V,0,none⟩)] w fun o w'=>o = .returned (.tuple #[])∧Rd w' r q (tkL l e 8) (tkE l e 8)∧(∃v,v = .int .i64 (sg (ofLe (tkB l e 8)))∧w'.heap[V]?=some (.cells #[c0,c1,c2,c3,v] ty (0,0)))∧Kp (fun b=>b=q∨b=V) w w':=by
 obtain ⟨X,hX⟩:∃x,ofLe (tkB l e 8)=x:=⟨_,rfl⟩;have hXb:X<256 ^ 8:=by
  rw [←hX];have h1:=(tk_bytes hl e 8).1;have h2:=(tk_bytes hl e 8).2.2;have h3:=ofLe_lt h1;have h4:256 ^ (tkB l e 8).length ≤256 ^ 8:=Nat.pow_le_pow_right (by omega) h2;omega
 simp only [Nat.reducePow] at hXb;obtain ⟨Y,hY⟩:∃y,sg X=y:=⟨_,rfl⟩;have W:IntKind.i64.wrap (X:Int)=Y:=hY;have HY:=hid hY;clear hY;have HX:=hid hX;have HV:=hid hV;have HR:=hid hR;have HL:=hid hl;clear hX hXb hV hR hl;go_enter Tryz.func96,Tryz.ntmps96;go_wp2_with fail;refine (reight_any r q l e _ HR.out HL.out).mono ?_;rintro o w1 ⟨rfl,hR,hK⟩;rw [HX.out];have h2:=hK.blk HV.out (by omega);have HV1:=hid h2;have HR1:=hid hR;have HK1:=hid hK;obtain ⟨_,_,_,_,_,_,_,_,_,_⟩:=cells5 HV1.out;clear h2 hR hK;go_wp2_with fail;go_end0
 have hkb:=(Kp.refl (· = V) w1).setCell (p:=⟨V,4,none⟩) rfl (.int .i64 Y);exact ⟨rfl,HR1.out.kp hkb (fun i hi=>by omega),⟨_,by rw [HX.out,HY.out],heap_setCell_same w1 V 4 _ ty (.int .i64 Y) HV1.out⟩,(HK1.out.mono (fun i hi=>Or.inl hi)).trans (hkb.mono (fun i hi=>Or.inr hi))⟩
open BookPlain (Rp Rq)
structure St5 where
 i:Nat
 s:Nat
 u:Int
 l:List Nat
 e:Nat
def rdF (f:Nat)(x:St5):St5:=
 if f=0 then ⟨ofLe (tkB x.l x.e 4),x.s,x.u,tkL x.l x.e 4,tkE x.l x.e 4⟩
 else if f=1 then ⟨x.i,ofLe (tkB x.l x.e 2),x.u,tkL x.l x.e 2,tkE x.l x.e 2⟩
 else ⟨x.i,x.s,sg (ofLe (tkB x.l x.e 8)),tkL x.l x.e 8,tkE x.l x.e 8⟩
def rqK (b:List Nat):Nat:=ofLe (tkB b 0 1)
def rqT (b:List Nat):Nat:=ofLe (tkB (tkL b 0 1) (tkE b 0 1) 4)
def st0 (b:List Nat):St5:=⟨0,0,0,tkL (tkL b 0 1) (tkE b 0 1) 4,tkE (tkL b 0 1) (tkE b 0 1) 4⟩
def stN (b:List Nat)(j:Nat):St5:=((fsF (rqK b)).take j).foldl (fun x f=>rdF f x) (st0 b)
def stE (b:List Nat):St5:=stN b (fsF (rqK b)).length
theorem stN_succ {b:List Nat}{j f:Nat}(h:(fsF (rqK b))[j]?=some f):stN b (j+1)=rdF f (stN b j):=by
 unfold stN;rw [List.take_add_one,h,List.foldl_append];rfl
theorem rdF_bytes {f:Nat}{x:St5}(h:Bs x.l):Bs (rdF f x).l :=by
 unfold rdF;split
 ·exact (tk_bytes h _ _).2.1
 split
 ·exact (tk_bytes h _ _).2.1
 ·exact (tk_bytes h _ _).2.1
theorem stN_bytes {b:List Nat}(h:Bs b)(j:Nat):Bs (stN b j).l :=by
 have:∀(l:List Nat) (x:St5),Bs x.l→Bs (l.foldl (fun x f=>rdF f x) x).l :=by
  intro l;induction l with
  | nil=>intro x hx;exact hx
  | cons f l ih=>intro x hx;exact ih _ (rdF_bytes hx)
 exact this _ _ ((tk_bytes (tk_bytes h _ _).2.1 _ _).2.1)
def reqG (b:List Nat):Option Rq:=if rkB (rqK b)=true∧endE (stE b).l (stE b).e = 0∧0≤(stE b).u then some ⟨rqK b,rqT b,(stE b).i,(stE b).s,(stE b).u.toNat⟩ else none
def rqC (k t:Nat)(i s:Nat)(u:Int):Array Value:=#[.int .i64 k,.int .u32 t,.int .u32 i,.int .i64 s,.int .i64 u]
def ReqGet (b:List Nat)(w:World)(e:Ending)(w':World):Prop:= ∃(c:Array Value) (f:Int),e = .returned (.tuple #[.agg c,.int .i64 f])∧((f=0∧ ∃q,reqG b=some q∧c=rqC q.k q.tag q.id q.seat q.ttl)∨(f≠0∧reqG b=none∧c=rqC 0 0 0 0 0))∧Below w.heap.size w w'
theorem Lq_get {l:List Nat}{k:Nat}(h:k<l.length):(Lq l)[k]?=some (.int .i64 ((l[k]:Nat):Int)):=by simp [Lq,h]
theorem Lq_len (l:List Nat):(Lq l).length = l.length:=by simp [Lq]
theorem Sl_cellQ {w:World}{a:Option Addr}{n c k:Nat}{l:List Nat}(h:Sl w (.slice a n c) (Lq l))(hk:k<l.length):
 ∃b off,a=some ⟨b,off,none⟩∧b<w.heap.size∧w.cell? ⟨b,off+k,none⟩=some (.int .i64 ((l[k]:Nat):Int)):=by
 obtain ⟨a',c',e,_,_,h9⟩:=h;injection e with e1 e2 e3;subst e1;rcases h9 with ⟨h9,_⟩ | ⟨b,off,rfl,hb,hcell⟩
 ·have:=Lq_len l;rw [h9] at this;simp at this;omega
 ·exact ⟨b,off,rfl,hb,hcell k _ (Lq_get hk)⟩
structure ReqI (w:World)(R V F r q k tg:Nat)(hv:Value)(b:List Nat)(j:Nat)(wi:World):Prop where
 res:wi.heap[R]?=some (.cells #[.int .i64 0,.int .u32 0,.int .u32 0,.int .i64 0,.int .i64 0] 48 (0,0))
 req:wi.heap[V]?=some (.cells #[.int .i64 k,.int .u32 tg,.int .u32 ((stN b j).i : Int),.int .i64 ((stN b j).s : Int),.int .i64 (stN b j).u] 48 (0,0))
 rd:Rd wi r q (stN b j).l (stN b j).e
 fld:wi.heap[F]?=some (.cells fldC 123 (0,0))
 has:Sl wi hv (Lq (fsF k))
 bel:Below w.heap.size w wi
theorem ReqI.next {w:World}{R V F r q k tg:Nat}{hv:Value}{b:List Nat}{j f:Nat}{wi wj:World}(h:ReqI w R V F r q k tg hv b j wi)(hk:Kp (fun i=>i=q∨i=V) wi wj)(hR:R≠q∧R≠V)(hF:F≠q∧F≠V)(hq:w.heap.size≤q)(hV:w.heap.size≤V)(ho:∀b,hv.ownBlock=some b→b≠q∧b≠V)(hf:(fsF (rqK b))[j]?=some f)(hrd:Rd wj r q (rdF f (stN b j)).l (rdF f (stN b j)).e)(hreq:wj.heap[V]?=some (.cells #[.int .i64 k,.int .u32 tg,.int .u32 ((rdF f (stN b j)).i : Int),.int .i64 ((rdF f (stN b j)).s : Int),.int .i64 (rdF f (stN b j)).u] 48 (0,0))):ReqI w R V F r q k tg hv b (j+1) wj:=by
 have e:=stN_succ hf;exact ⟨hk.blk h.res (by omega),by rw [e];exact hreq,by rw [e];exact hrd,hk.blk h.fld (by omega),Sl_kp h.has hk (fun x hx=>by have:=ho x hx;omega),h.bel.trans (hk.below h.bel.size (fun i hi=>by omega))⟩
theorem reqget_any (v:Value)(b:List Nat)(w:World)(hv:Sl w v (Lb b))(hbs:Bs b)(hl:b.length≤10000000):Calls Tryz.prog 17 #[v] w (ReqGet b w):=by
 obtain ⟨a,c,rfl,hc,hcm⟩:=Sl_partsB hv;have HV0:=hid hv;have HBS:=hid hbs;have HLEN:=hid hl;obtain ⟨k,hk⟩:∃k,rqK b=k:=⟨_,rfl⟩;obtain ⟨tg,htg⟩:∃k,rqT b=k:=⟨_,rfl⟩;have hkb:k<256:=by
  rw [←hk];unfold rqK;have h1:=(tk_bytes hbs 0 1).1;have h2:=(tk_bytes hbs 0 1).2.2;have h3:=ofLe_lt h1;have h4:256 ^ (tkB b 0 1).length ≤256 ^ 1:=Nat.pow_le_pow_right (by omega) h2;omega
 have HK:=hid hk;have HTG:=hid htg;have WK:IntKind.i64.wrap (k:Int)=(k:Int):=by rw [IntKind.wrap_i64];omega
 clear hv hbs hl hk htg hkb;go_enter Tryz.func17,Tryz.ntmps17;go_wp2_with fail;refine at_new1 ?_;intro w0 p0 ns nb;refine (of_any _ b _ (Sl_below HV0.out nb (Nat.le_refl _)) HLEN.out).mono ?_;rintro e w1 ⟨r,q,rfl,hR,hr,hq,hb⟩;have hR0:=Bl.blk hb p0;have hb1:=Bl.trans nb hb;have hrq:r<w1.heap.size∧q<w1.heap.size∧w.heap.size<r∧w.heap.size<q:=by
  have hrl:=heap_lt hR.1;have hql:=hR.2.2.lt;omega
 obtain ⟨hrl,hql,hr,hq⟩:=hrq;have HR0:=hid hR0;have HB:=hid hb1;have HRD:=hid hR;clear p0 ns nb hb hR hR0 hb1;go_wp2_with fail;refine (rbyte_any r q b 0 _ HRD.out HBS.out).mono ?_;rintro e w2 ⟨rfl,hR,hK⟩;rw [show ofLe (tkB b 0 1)=k from HK.out];have h1:=hK.blk HR0.out (by omega);have hbn:=HB.out.trans (hK.below (B:=w.heap.size) (by omega) (fun i hi=>by omega));have hsz:=hK.size;clear HR0 HB HRD;have HR0:=hid h1;have HB:=hid hbn;have HRD:=hid hR;clear h1 hbn hR hK;go_wp2_with fail;refine (rfour_any r q _ _ _ HRD.out (tk_bytes HBS.out _ _).2.1).mono ?_;rintro e w3 ⟨rfl,hR,hK⟩;rw [show ofLe (tkB (tkL b 0 1) (tkE b 0 1) 4)=tg from HTG.out];have h1:=hK.blk HR0.out (by omega);have hbn:=HB.out.trans (hK.below (B:=w.heap.size) (by omega) (fun i hi=>by omega));have hsz2:=hK.size;clear HR0 HB HRD;have HR0:=hid h1;have HB:=hid hbn;have HRD:=hid hR;have hsz3:r<w3.heap.size∧q<w3.heap.size∧w.heap.size<w3.heap.size:=by omega
 obtain ⟨hrl3,hql3,hRl3⟩:=hsz3;clear h1 hbn hR hK hsz hsz2 hrl hql;go_wp2_with fail;refine at_new1 ?_;intro w4 p4 ns nb;obtain ⟨V,hV⟩:∃V,w3.heap.size=V:=⟨_,rfl⟩;rw [hV] at p4 hrl3 hql3 hRl3 ns ⊢;have h1:=Bl.blk nb HR0.out;have hbn:=HB.out.trans (nb.mono (by omega));have hR:=HRD.out.below nb (Nat.le_refl _);clear HR0 HB HRD;refine (reqof_any k _).mono ?_;rintro e w5 ⟨hv5,rfl,hS5,hO5,hb⟩;have h2:=Bl.blk hb h1;have h3:=Bl.blk hb p4;have h4:=hR.below hb (Nat.le_refl _);have h5:=hbn.trans (hb.mono (by omega));have hO:∀b,hv5.ownBlock=some b→V<b∧b<w5.heap.size:=fun x hx=>⟨by have:=(hO5 x hx).1;omega,(hO5 x hx).2⟩
 obtain ⟨ha,hcc,rfl,_,_⟩:=Sl_len hS5;rw [Lq_len] at hS5 hO ⊢;have HS:=hid hS5;have HO:=hid hO;have HR0:=hid h2;have HVV:=hid h3;have HRD:=hid h4;have HB:=hid h5;have hs5:V<w5.heap.size:=by have:=hb.size;omega
 clear h1 h2 h3 h4 h5 hb hS5 hO5 hO hbn hR p4 ns nb;go_wp2_with fail;refine (fields_any _).mono ?_;rintro e w6 ⟨rfl,hb⟩;have h2:=Bl.blk hb HR0.out;have h3:=Bl.blk hb HVV.out;have h4:=HRD.out.below hb (Nat.le_refl _);have h5:=HB.out.trans (hb.mono (by omega));have h6:=Sl_below HS.out hb (Nat.le_refl _);have hs6:V<w6.heap.size∧w5.heap.size≤w6.heap.size:=by have:=hb.size;omega
 clear HR0 HVV HRD HB HS hs5;have HR0:=hid h2;have HVV:=hid h3;have HRD:=hid h4;have HB:=hid h5;have HS:=hid h6;clear h2 h3 h4 h5 h6 hb;unfold fldC;go_wp2_with (first | (refine wpList_store_all rfl 123 _ _ rfl w6.heap.size 123 _ _ rfl rfl (new1 _ _).1 rfl (by kernel_rfl) (by simp [Value.oneCell']) ?_;intro w7 hb7 hs7 hk7;have HN7:=hid (new1 w6 (.cells #[.nilFunc,.nilFunc,.nilFunc,.nilFunc,.nilFunc,.nilFunc,.nilFunc,.nilFunc,.nilFunc] 123)).2.2;have HF7:=hid hb7;have HK7:=hid hk7;clear hb7 hk7));obtain ⟨F,hF⟩:∃F,w6.heap.size=F:=⟨_,rfl⟩;rw [hF] at HF7 HK7;have hVF:V<F:=by omega
 have hI0:ReqI w w.heap.size V F r q k tg (.slice ha (fsF k).length hcc) b 0 w7:=by
  have hn:=HN7.out;have hk7:=HK7.out;have hz:w6.heap.size≤(w6.alloc (.cells #[.nilFunc,.nilFunc,.nilFunc,.nilFunc,.nilFunc,.nilFunc,.nilFunc,.nilFunc,.nilFunc] 123)).heap.size :=hn.size;refine ⟨hk7.blk (Bl.blk hn HR0.out) (by omega),hk7.blk (Bl.blk hn HVV.out) (by omega),(HRD.out.below hn (Nat.le_refl _)).kp hk7 (fun i hi=>by omega),HF7.out,Sl_kp (Sl_below HS.out hn (Nat.le_refl _)) hk7 (fun x hx e=>?_),(HB.out.trans (hn.mono (by omega))).trans (hk7.below (by omega) (fun i hi=>by omega))⟩;have:=(HO.out x hx).2;omega
 have HI0:=hid hI0;rw [hF];clear hI0 HR0 HVV HRD HB HS HN7 HF7 HK7 hs7 hs6 hF;go_loopw [28] (fun i wi=> ∃j:Nat,j≤(fsF k).length ∧i = .int .i64 j∧ReqI w w.heap.size V F r q k tg (.slice ha (fsF k).length hcc) b j wi) (fun i _=>(fsF k).length - (intOf i).toNat)
 case atStart=>exact ⟨0,by omega,rfl,HI0.out⟩
 case round=>
  obtain ⟨j,hj,rfl,hI⟩:=hrel;have HI:=hid hI;have hlen2:=fsF_len k;clear hI HI0;by_cases hlt:j<(fsF k).length
  ·have hltI:(j:Int)<((fsF k).length : Int):=by omega
   obtain ⟨hb9,ho9,rfl,hlt9,hc9⟩:=Sl_cellQ HI.out.has hlt;have hfj:(fsF k)[j]?=some (fsF k)[j]:=List.getElem?_eq_getElem hlt;have hfle:=fsF_le k _ (List.getElem_mem hlt);generalize (fsF k)[j]=f at hc9 hfj hfle;have hown:V<hb9:=(HO.out hb9 rfl).1;have HFJ:=hid (show (fsF (rqK b))[j]?=some f by rw [show rqK b=k from HK.out];exact hfj);have hF3:f=0∨f=1∨f=2:=by omega
   have HNE:=hid (show ∀x,(Value.slice (some ⟨hb9,ho9,none⟩) (fsF k).length hcc).ownBlock = some x→x≠q∧x≠V from fun x hx=>by
    have:=(HO.out x hx).1;omega)
   have HBY:=hid (stN_bytes HBS.out j);have hrlt:w.heap.size<V:=hRl3;clear hfj hfle;rcases hF3 with hf | hf | hf
   ·subst hf;have hc:wr.cell? ⟨hb9,ho9+j,none⟩=some (.int .i64 0):=hc9;have hfn:wr.cell? ⟨F,1,none⟩=some (.func (.func 90) #[] #[]):=(blk HI.out.fld).1 1;clear hc9;go_wp2_with fail;refine (getf0 r q V _ _ _ _ _ _ _ 48 _ HI.out.rd HBY.out HI.out.req hrl3 hql3).mono ?_;rintro o w9 ⟨rfl,h1,⟨v9,rfl,h2⟩,h3⟩;have H9:=hid (HI.out.next h3 (by omega) (by omega) (by omega) (by omega) HNE.out HFJ.out (by unfold rdF;exact h1) (by unfold rdF;exact h2));clear h1 h2 h3;go_wp2_with fail;go_roundw;case rel=>exact ⟨j+1,by omega,by go_num,H9.out⟩
    case measure=>simp [intOf];omega
   ·subst hf;have hc:wr.cell? ⟨hb9,ho9+j,none⟩=some (.int .i64 1):=hc9;have hfn:wr.cell? ⟨F,4,none⟩=some (.func (.func 93) #[] #[]):=(blk HI.out.fld).1 4;clear hc9;go_wp2_with fail;refine (getf1 r q V _ _ _ _ _ _ _ 48 _ HI.out.rd HBY.out HI.out.req hrl3 hql3).mono ?_;rintro o w9 ⟨rfl,h1,⟨v9,rfl,h2⟩,h3⟩;have H9:=hid (HI.out.next h3 (by omega) (by omega) (by omega) (by omega) HNE.out HFJ.out (by unfold rdF;exact h1) (by unfold rdF;exact h2));clear h1 h2 h3;go_wp2_with fail;go_roundw;case rel=>exact ⟨j+1,by omega,by go_num,H9.out⟩
    case measure=>simp [intOf];omega
   ·subst hf;have hc:wr.cell? ⟨hb9,ho9+j,none⟩=some (.int .i64 2):=hc9;have hfn:wr.cell? ⟨F,7,none⟩=some (.func (.func 96) #[] #[]):=(blk HI.out.fld).1 7;clear hc9;go_wp2_with fail;refine (getf2 r q V _ _ _ _ _ _ _ 48 _ HI.out.rd HBY.out HI.out.req hrl3 hql3).mono ?_;rintro o w9 ⟨rfl,h1,⟨v9,rfl,h2⟩,h3⟩;have H9:=hid (HI.out.next h3 (by omega) (by omega) (by omega) (by omega) HNE.out HFJ.out (by unfold rdF;exact h1) (by unfold rdF;exact h2));clear h1 h2 h3;go_wp2_with fail;go_roundw;case rel=>exact ⟨j+1,by omega,by go_num,H9.out⟩
    case measure=>simp [intOf];omega
  ·obtain rfl:j=(fsF k).length :=by omega
   have hE:stN b (fsF k).length = stE b:=by unfold stE;rw [show rqK b=k from HK.out]
   have hres:=HI.out.res;have hreq:=HI.out.req;have hrd:=HI.out.rd;rw [hE] at hreq hrd;have hGdef:reqG b=if rkB k=true∧endE (stE b).l (stE b).e = 0∧0≤(stE b).u then some ⟨k,tg,(stE b).i,(stE b).s,(stE b).u.toNat⟩ else none:=by
    unfold reqG;rw [show rqK b=k from HK.out,show rqT b=tg from HTG.out]
   generalize (stE b).i = I at hreq hGdef;generalize (stE b).s = S at hreq hGdef;generalize (stE b).u = U at hreq hGdef;generalize (stE b).l = L at hrd hGdef;generalize (stE b).e = E at hrd hGdef;have HBL:=hid HI.out.bel;have HRS:=hid hres;have HRQ:=hid hreq;have HRD:=hid hrd;have HG:=hid hGdef;obtain ⟨r0,g0,r1,g1,r2,g2,r3,g3,r4,g4⟩:=cells5 HRS.out;obtain ⟨c0,f0,c1,f1,c2,f2,c3,f3,c4,f4⟩:=cells5 HRQ.out;clear HI hE hGdef hres hreq hrd hlen2;cases hrk:rkB k with
   | false=>
    have hN:reqG b=none:=by rw [HG.out,hrk];simp
    have HN:=hid hN;clear hN hrk HG;go_wp2_with fail;refine bodyPost_ret (results_row2 rfl _ _ _ _ _ _ _ rfl (rset5 HRS.out) Tryz.underlying48 rfl (by kernel_rfl)) rfl ⟨_,_,rfl,Or.inr ⟨by decide,HN.out,rfl⟩,rset5_below HBL.out (Nat.le_refl _) _ _ _ _ _⟩
   | true=>
    have HRK:=hid hrk;clear hrk;go_wp2_with fail;refine (rend_any r q L E _ HRD.out).mono ?_;rintro o w' ⟨rfl,rfl⟩;by_cases hE0:endE L E=0
    ·have HE0:=hid hE0;rw [hE0];clear hE0;by_cases hU:U<0
     ·have hN:reqG b=none:=by rw [HG.out,if_neg];omega
      have HN:=hid hN;clear hN HG;go_wp2_with fail;refine bodyPost_ret (results_row2 rfl _ _ _ _ _ _ _ rfl (rset5 HRS.out) Tryz.underlying48 rfl (by kernel_rfl)) rfl ⟨_,_,rfl,Or.inr ⟨by decide,HN.out,rfl⟩,rset5_below HBL.out (Nat.le_refl _) _ _ _ _ _⟩
     ·have hN:reqG b=some ⟨k,tg,I,S,U.toNat⟩:=by rw [HG.out,if_pos ⟨HRK.out,HE0.out,by omega⟩]
      have HN:=hid hN;have HUU:=hid (show ((U.toNat:Nat):Int)=U by omega);clear hN HG;go_wp2_with fail;refine bodyPost_ret (results_row2 rfl _ _ _ _ _ _ _ rfl (rset5 HRS.out) Tryz.underlying48 rfl (by kernel_rfl)) rfl ⟨_,_,rfl,Or.inl ⟨rfl,_,HN.out,?_⟩,rset5_below HBL.out (Nat.le_refl _) _ _ _ _ _⟩;unfold rqC;rw [HUU.out]
    ·have hEp:¬((endE L E:Nat):Int)=0:=by omega
     have hN:reqG b=none:=by rw [HG.out,if_neg];omega
     have HN:=hid hN;clear hN HG hE0;go_wp2_with fail;refine bodyPost_ret (results_row2 rfl _ _ _ _ _ _ _ rfl (rset5 HRS.out) Tryz.underlying48 rfl (by kernel_rfl)) rfl ⟨_,_,rfl,Or.inr ⟨by decide,HN.out,rfl⟩,rset5_below HBL.out (Nat.le_refl _) _ _ _ _ _⟩
end
end Go.Proofs.YtdjiopacieadpaaGreatDoor
