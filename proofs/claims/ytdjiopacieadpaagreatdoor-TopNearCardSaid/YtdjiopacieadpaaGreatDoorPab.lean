/- TopNear: part Pab: OctS OctT CrcPlain CrcBits Crc Frame Kit2. -/
import Derived.Test.YtdjiopacieadpaaGreatDoorPaa
import Derived.Laws.BitsAllLaws
import Derived.Laws.ShiftsVarLaws
set_option linter.unusedVariables false
set_option linter.unusedSimpArgs false
set_option maxRecDepth 8000
set_option maxHeartbeats 8000000
namespace Go.Proofs.YtdjiopacieadpaaGreatDoor
section
open Go.RowKit
def ofLe:List Nat→Nat
 | []=>0
 | b::t=>b+256*ofLe t
theorem ofLe_app (a b:List Nat):ofLe (a++b)=ofLe a+256 ^ a.length*ofLe b:=by
 induction a with
 | nil=>simp [ofLe]
 | cons x a ih=>
  show x+256*ofLe (a++b)=x+256*ofLe a+256 ^ (a.length+1)*ofLe b
  rw [ih,Nat.mul_add,Nat.pow_succ,←Nat.mul_assoc,Nat.mul_comm 256 (256 ^ a.length)];omega
theorem ofLe_lt {l:List Nat}(h:Bs l):ofLe l<256 ^ l.length:=by
 induction l with
 | nil=>simp [ofLe]
 | cons x l ih=>
  have h1:=h x (List.mem_cons_self ..);have h2:=ih (fun b hb=>h b (List.mem_cons_of_mem _ hb));show x+256*ofLe l<256 ^ (l.length+1)
  rw [Nat.pow_succ];omega
theorem ofLe_le (n k:Nat):ofLe (le n k)=n % 256 ^ k:=by
 induction k with
 | zero=>simp [le,ofLe,Nat.mod_one]
 | succ k ih=>
  show ofLe (le n k++[n / 256 ^ k % 256])=_
  rw [ofLe_app,ih,le_len,Nat.pow_succ,Nat.mod_mul];simp [ofLe]
theorem or_step {l:List Nat}{k:Nat}(hl:Bs l)(hk:k<l.length)(h8:k<8):bits .or .u64 (ofLe (l.take k):Int) (IntKind.u64.wrap ((l[k]:Nat)*2 ^ (8*k)))=(ofLe (l.take (k+1)):Int):=by
 have hb:=hl l[k] (List.getElem_mem hk);have ht:ofLe (l.take k)<256 ^ k:=by
  have:=ofLe_lt (l:=l.take k) (fun b hb=>hl b (List.mem_of_mem_take hb));rwa [List.length_take,Nat.min_eq_left (by omega)] at this
 have e256:(256:Nat) ^ k=2 ^ (8*k):=by rw [show (256:Nat)=2 ^ 8 from rfl,←Nat.pow_mul]
 have hp:(256:Nat) ^ k≤256 ^ 7:=Nat.pow_le_pow_right (by omega) (by omega);have hp7:(256:Nat) ^ 7=72057594037927936:=by decide
 have hm:l[k]*256 ^ k≤255*256 ^ k:=Nat.mul_le_mul_right _ (by omega);have ew:IntKind.u64.wrap ((l[k]:Nat)*2 ^ (8*k))=((l[k]*256 ^ k:Nat):Int):=by
  have e2:((l[k]:Nat):Int)*2 ^ (8*k)=((l[k]*256 ^ k:Nat):Int):=by rw [e256];simp
  rw [e2,IntKind.wrap_u64];omega
 rw [ew,u64_or_nat _ _ (by omega) (by omega)];rw [List.take_succ_eq_append_getElem hk,ofLe_app,List.length_take,Nat.min_eq_left (by omega)];congr 1
 show _=ofLe (l.take k)+256 ^ k*(l[k]+256*0)
 rw [Nat.mul_zero,Nat.add_zero];rw [e256] at ht ⊢;rw [Nat.or_comm,Nat.mul_comm,←Nat.two_pow_add_eq_or_of_lt ht,Nat.add_comm]
theorem rnum_any (q:Nat)(l:List Nat)(e n:Nat)(w:World)(hR:Rs w q l e)(hl:Bs l)(hn:n≤8):
 Calls Tryz.prog 146 #[.pointer (some ⟨q,0,none⟩),.int .i64 n] w fun o w'=>o = .returned (.int .u64 (ofLe (tkB l e n):Int))∧Rs w' q (tkL l e n) (tkE l e n)∧Kp (· = q) w w':=by
 have HR:=hid hR;have hbt:Bs (tkB l e n):=by
  unfold tkB;split
  ·exact fun b hb=>hl b (List.mem_of_mem_take hb)
  ·intro b hb;cases hb
 have hln:(tkB l e n).length ≤8:=by
  unfold tkB;split
  ·rw [List.length_take];omega
  ·simp
 have HBT:=hid hbt;clear hR hl hbt;go_enter Tryz.func146,Tryz.ntmps146;go_wp2_with fail;refine (take_any q l e n _ HR.out (by omega)).mono ?_;rintro o w1 ⟨v1,rfl,hs,_,h2,h3⟩;have H2:=hid h2;have H3:=hid h3;have HS:=hid hs;obtain ⟨a,c,rfl,hc,hcm⟩:=Sl_partsB hs;obtain ⟨bs,hbs⟩:∃bs,tkB l e n=bs:=⟨_,rfl⟩;rw [hbs] at HS HBT hln hc ⊢;have HBS:=hid hbs;clear h2 h3 hs hbs;go_wp2_with fail;go_loop [5,12] (fun r i=> ∃k:Nat,k≤bs.length∧i = .int .i64 k∧r = .int .u64 (ofLe (bs.take k):Int)) (fun _ i=>bs.length-(intOf i).toNat)
 case atStart=>exact ⟨0,Nat.zero_le _,rfl,rfl⟩
 case round=>
  obtain ⟨k,hk,rfl,rfl⟩:=hrel;by_cases hlt:k<bs.length
  ·have hlt':(k:Int)<(bs.length:Int):=by omega
   obtain ⟨b,off,rfl,_,hcl⟩:=Sl_cellB (k:=k) HS.out hlt;have hw8:IntKind.i64.wrap (8*(k:Int))=8*(k:Int):=by rw [IntKind.wrap_i64];omega
   have hb:=HBT.out bs[k] (List.getElem_mem hlt);have hwb:IntKind.u64.wrap ((bs[k]:Nat):Int)=((bs[k]:Nat):Int):=by rw [IntKind.wrap_u64];omega
   have hor:=or_step HBT.out hlt (by omega);go_wp2_with fail;go_round
   case rel=>exact ⟨k+1,by omega,by go_num,rfl⟩
   case measure=>simp [intOf];omega
  ·obtain rfl:k=bs.length:=by omega
   go_wp2_with fail;go_ret;exact ⟨by rw [HBS.out];rfl,H2.out,H3.out⟩
theorem Rd.parts {w:World}{r q:Nat}{l:List Nat}{e:Nat}(h:Rd w r q l e):w.cell? ⟨r,0,none⟩=some (.pointer (some ⟨q,0,none⟩)):=(blk h.1).1 0
theorem Rd.turn {w w':World}{r q:Nat}{l l':List Nat}{e e':Nat}(h:Rd w r q l e)(hR:Rs w' q l' e')(hk:Kp (· = q) w w'):Rd w' r q l' e':=
 ⟨(hk.block r (Array.getElem?_eq_some_iff.1 h.1).1 h.2.1).trans h.1,h.2.1,hR⟩
theorem tk_bytes {l:List Nat}(h:Bs l)(e n:Nat):Bs (tkB l e n)∧Bs (tkL l e n)∧(tkB l e n).length ≤n:=by
 unfold tkB tkL;refine ⟨?_,?_,?_⟩
 ·split
  ·exact fun b hb=>h b (List.mem_of_mem_take hb)
  ·intro b hb;cases hb
 ·split
  ·split
   ·exact fun b hb=>h b (List.mem_of_mem_drop hb)
   ·intro b hb;cases hb
  ·exact h
 ·split
  ·rw [List.length_take];omega
  ·exact Nat.zero_le _
theorem rnext_any (r q:Nat)(l:List Nat)(e n:Nat)(w:World)(hR:Rd w r q l e)(hl:Bs l)(hn:n≤8):
 Calls Tryz.prog 81 #[.pointer (some ⟨r,0,none⟩),.int .i64 n] w fun o w'=>o = .returned (.int .u64 (ofLe (tkB l e n):Int))∧Rd w' r q (tkL l e n) (tkE l e n)∧Kp (· = q) w w':=by
 have HR:=hid hR;have HL:=hid hl;have hc:=hR.parts;clear hR hl;go_enter Tryz.func81,Tryz.ntmps81;go_wp2_with (first | (go_at_call 146;refine (rnum_any q l e n _ HR.out.2.2 HL.out hn).mono ?_;rintro o w1 ⟨rfl,h1,h2⟩;have H1:=hid h1;have H2:=hid h2;clear h1 h2) | go_in);go_ret;exact ⟨rfl,HR.out.turn H1.out H2.out,H2.out⟩
theorem rbyte_any (r q:Nat)(l:List Nat)(e:Nat)(w:World)(hR:Rd w r q l e)(hl:Bs l):
 Calls Tryz.prog 32 #[.pointer (some ⟨r,0,none⟩)] w fun o w'=>o = .returned (.int .u8 (ofLe (tkB l e 1):Int))∧Rd w' r q (tkL l e 1) (tkE l e 1)∧Kp (· = q) w w':=by
 have HR:=hid hR;have HL:=hid hl;have hw1:IntKind.u8.wrap (ofLe (tkB l e 1):Int)=(ofLe (tkB l e 1):Int):=by
  have h1:=ofLe_lt (tk_bytes HL.out e 1).1;have h2:(256:Nat) ^ (tkB l e 1).length ≤256 ^ 1:=Nat.pow_le_pow_right (by omega) (tk_bytes HL.out e 1).2.2;have h3:(256:Nat) ^ 1=256:=by decide
  rw [IntKind.wrap_u8];omega
 clear hR hl;go_enter Tryz.func32,Tryz.ntmps32;go_wp2_with fail;refine (rnext_any r q l e 1 _ HR.out HL.out (by omega)).mono ?_;rintro o w1 ⟨rfl,h1,h2⟩;have H1:=hid h1;have H2:=hid h2;clear h1 h2;go_wp2_with fail;go_ret;exact ⟨rfl,H1.out,H2.out⟩
theorem rtwo_any (r q:Nat)(l:List Nat)(e:Nat)(w:World)(hR:Rd w r q l e)(hl:Bs l):
 Calls Tryz.prog 33 #[.pointer (some ⟨r,0,none⟩)] w fun o w'=>o = .returned (.int .u16 (ofLe (tkB l e 2):Int))∧Rd w' r q (tkL l e 2) (tkE l e 2)∧Kp (· = q) w w':=by
 have HR:=hid hR;have HL:=hid hl;have hw1:IntKind.u16.wrap (ofLe (tkB l e 2):Int)=(ofLe (tkB l e 2):Int):=by
  have h1:=ofLe_lt (tk_bytes HL.out e 2).1;have h2:(256:Nat) ^ (tkB l e 2).length ≤256 ^ 2:=Nat.pow_le_pow_right (by omega) (tk_bytes HL.out e 2).2.2;have h3:(256:Nat) ^ 2=65536:=by decide
  rw [IntKind.wrap_u16];omega
 clear hR hl;go_enter Tryz.func33,Tryz.ntmps33;go_wp2_with fail;refine (rnext_any r q l e 2 _ HR.out HL.out (by omega)).mono ?_;rintro o w1 ⟨rfl,h1,h2⟩;have H1:=hid h1;have H2:=hid h2;clear h1 h2;go_wp2_with fail;go_ret;exact ⟨rfl,H1.out,H2.out⟩
theorem rfour_any (r q:Nat)(l:List Nat)(e:Nat)(w:World)(hR:Rd w r q l e)(hl:Bs l):
 Calls Tryz.prog 31 #[.pointer (some ⟨r,0,none⟩)] w fun o w'=>o = .returned (.int .u32 (ofLe (tkB l e 4):Int))∧Rd w' r q (tkL l e 4) (tkE l e 4)∧Kp (· = q) w w':=by
 have HR:=hid hR;have HL:=hid hl;have hw1:IntKind.u32.wrap (ofLe (tkB l e 4):Int)=(ofLe (tkB l e 4):Int):=by
  have h1:=ofLe_lt (tk_bytes HL.out e 4).1;have h2:(256:Nat) ^ (tkB l e 4).length ≤256 ^ 4:=Nat.pow_le_pow_right (by omega) (tk_bytes HL.out e 4).2.2;have h3:(256:Nat) ^ 4=4294967296:=by decide
  rw [IntKind.wrap_u32'];omega
 clear hR hl;go_enter Tryz.func31,Tryz.ntmps31;go_wp2_with fail;refine (rnext_any r q l e 4 _ HR.out HL.out (by omega)).mono ?_;rintro o w1 ⟨rfl,h1,h2⟩;have H1:=hid h1;have H2:=hid h2;clear h1 h2;go_wp2_with fail;go_ret;exact ⟨rfl,H1.out,H2.out⟩
theorem reight_any (r q:Nat)(l:List Nat)(e:Nat)(w:World)(hR:Rd w r q l e)(hl:Bs l):
 Calls Tryz.prog 35 #[.pointer (some ⟨r,0,none⟩)] w fun o w'=>o = .returned (.int .u64 (ofLe (tkB l e 8):Int))∧Rd w' r q (tkL l e 8) (tkE l e 8)∧Kp (· = q) w w':=by
 have HR:=hid hR;have HL:=hid hl;clear hR hl;go_enter Tryz.func35,Tryz.ntmps35;go_wp2_with fail;refine (rnext_any r q l e 8 _ HR.out HL.out (by omega)).mono ?_;rintro o w1 ⟨rfl,h1,h2⟩;have H1:=hid h1;have H2:=hid h2;clear h1 h2;go_wp2_with fail;go_ret;exact ⟨rfl,H1.out,H2.out⟩
theorem rtake_any (r q:Nat)(l:List Nat)(e n:Nat)(w:World)(hR:Rd w r q l e)(hn:n≤1000000):
 Calls Tryz.prog 181 #[.pointer (some ⟨r,0,none⟩),.int .i64 n] w fun o w'=> ∃v',o = .returned v'∧w'.ownsRow w.heap.size 5 1 v' (tkB l e n).length (Lb (tkB l e n))∧Rd w' r q (tkL l e n) (tkE l e n)∧Kp (· = q) w w':=by
 have HR:=hid hR;have hc:=hR.parts;have hlen:(tkB l e n).length ≤1000000:=by
  unfold tkB;split
  ·rw [List.length_take];omega
  ·exact Nat.zero_le _
 clear hR;go_enter Tryz.func181,Tryz.ntmps181;go_wp2_with (first | (go_at_call 180;refine (take_any q l e n _ HR.out.2.2 hn).mono ?_;rintro o w1 ⟨v1,rfl,hs,_,h1,h2⟩;have H1:=hid h1;have H2:=hid h2;have HS:=hid hs;clear h1 h2 hs) | (go_at_call 80;refine (clone_any _ _ _ HS.out (by omega)).mono ?_;rintro o w2 ⟨v2,rfl,ho,hb⟩;have HO:=hid ho;have HB:=hid hb;clear ho hb) | go_in);go_ret;exact ⟨_,rfl,own_mono HO.out H2.out.size,(HR.out.turn H1.out H2.out).below HB.out (Nat.le_refl _),H2.out.trans (Kp.of_below HB.out (Nat.le_refl _))⟩
theorem rerr_any (r q:Nat)(l:List Nat)(e:Nat)(w:World)(hR:Rd w r q l e):
 Calls Tryz.prog 82 #[.pointer (some ⟨r,0,none⟩)] w fun o w'=>o = .returned (.int .i64 e)∧w=w':=by
 have hc:=hR.parts;obtain ⟨v,h1,_,_⟩:=hR.2.2;have hc1:w.cell? ⟨q,1,none⟩=some (.int .i64 e):=(blk h1).1 1;clear h1 hR;go_enter Tryz.func82,Tryz.ntmps82;go_wp2;go_ret;exact ⟨rfl,rfl⟩
theorem rleft_any (r q:Nat)(l:List Nat)(e:Nat)(w:World)(hR:Rd w r q l e):
 Calls Tryz.prog 110 #[.pointer (some ⟨r,0,none⟩)] w fun o w'=>o = .returned (.int .i64 l.length)∧w=w':=by
 have hc:=hR.parts;obtain ⟨v,h1,h2,_⟩:=hR.2.2;obtain ⟨a,c,rfl,_,_⟩:=Sl_partsB h2;have hc0:w.cell? ⟨q,0,none⟩=some (.slice a l.length c):=(blk h1).1 0;clear h1 hR h2;go_enter Tryz.func110,Tryz.ntmps110;go_wp2;go_ret;exact ⟨rfl,rfl⟩
def endE (l:List Nat)(e:Nat):Nat:=if e=0 then (if l=[] then 0 else 5) else e
theorem rend_any (r q:Nat)(l:List Nat)(e:Nat)(w:World)(hR:Rd w r q l e):
 Calls Tryz.prog 36 #[.pointer (some ⟨r,0,none⟩)] w fun o w'=>o = .returned (.int .i64 (endE l e:Int))∧w=w':=by
 have HR:=hid hR;have hc:=hR.parts;obtain ⟨v,h1,h2,_⟩:=hR.2.2;obtain ⟨a,c,rfl,_,_⟩:=Sl_partsB h2;have hc0:w.cell? ⟨q,0,none⟩=some (.slice a l.length c):=(blk h1).1 0;have hc1:w.cell? ⟨q,1,none⟩=some (.int .i64 e):=(blk h1).1 1;clear h1 hR h2;by_cases he:e=0
 ·subst he;cases l with
  | nil=>
   go_enter Tryz.func36,Tryz.ntmps36;go_wp2;go_ret;exact ⟨rfl,rfl⟩
  | cons b l=>
   have hp:(0:Int)<((b::l).length : Int):=by simp
   go_enter Tryz.func36,Tryz.ntmps36;go_wp2;go_ret;exact ⟨rfl,rfl⟩
 ·have he':¬(e:Int)=0:=by omega
  have hee:endE l e=e:=by unfold endE;rw [if_neg he]
  rw [hee];clear hee he;go_enter Tryz.func36,Tryz.ntmps36;go_wp2;go_ret;exact ⟨rfl,rfl⟩
theorem of_any (v:Value)(l:List Nat)(w:World)(hv:Sl w v (Lb l))(hl:l.length≤10000000):
 Calls Tryz.prog 30 #[v] w fun o w'=> ∃r q,o = .returned (.pointer (some ⟨r,0,none⟩))∧Rd w' r q l 0∧w.heap.size≤r∧w.heap.size≤q∧Below w.heap.size w w':=by
 obtain ⟨a,c,rfl,hc,hcm⟩:=Sl_partsB hv;have HV:=hid hv;clear hv;go_enter Tryz.func30,Tryz.ntmps30;go_wp2_with fail;refine (clone_any _ l _ HV.out hl).mono ?_;rintro o w1 ⟨v1,rfl,ho,hb⟩;obtain ⟨oa,oc,rfl,_,_⟩:=own_form ho;have HO:=hid ho;have HB:=hid hb;clear ho hb;go_wp2_with fail;go_ret;have hq:((w1.alloc (.cells #[.slice oa l.length oc,.int .i64 0] 180)).alloc (.cells #[.pointer (some ⟨w1.heap.size,0,none⟩)] 182)).heap[w1.heap.size]?=some (.cells #[.slice oa l.length oc,.int .i64 0] 180 (0,0)):=by
  rw [heap_alloc_old (h:=by simp)];exact heap_alloc_new w1 _
 have hr:=heap_alloc_new (w1.alloc (.cells #[.slice oa l.length oc,.int .i64 0] 180)) (.cells #[.pointer (some ⟨w1.heap.size,0,none⟩)] 182);rw [World.size_alloc] at hr;have hob:OwnLt (Value.slice oa l.length oc) w1.heap.size:=fun b h9=>(HO.out.lt b h9).2
 exact ⟨w1.heap.size+1,w1.heap.size,by simp,⟨hr,by omega,_,hq,Sl_alloc (Sl_alloc (Sl_of_own HO.out) _) _,hob⟩,by have:=HB.out.size;omega,HB.out.size,(HB.out.alloc HB.out.size _).alloc (by have:=HB.out.size;simp;omega) _⟩
theorem tkB_in {l:List Nat}{n:Nat}(h:n≤l.length):tkB l 0 n=l.take n∧tkL l 0 n=l.drop n∧tkE l 0 n=0:=by
 unfold tkB tkL tkE;rw [if_pos ⟨rfl,h⟩,if_pos rfl,if_pos h,if_pos rfl,if_pos h];exact ⟨rfl,rfl,rfl⟩
theorem rbyte_in (r q:Nat)(l:List Nat)(w:World)(hR:Rd w r q l 0)(hl:Bs l)(h:1≤l.length):
 Calls Tryz.prog 32 #[.pointer (some ⟨r,0,none⟩)] w fun o w'=>o = .returned (.int .u8 (ofLe (l.take 1):Int))∧Rd w' r q (l.drop 1) 0∧Kp (· = q) w w':=by
 have:=rbyte_any r q l 0 w hR hl;rw [(tkB_in h).1,(tkB_in h).2.1,(tkB_in h).2.2] at this;exact this
theorem rtwo_in (r q:Nat)(l:List Nat)(w:World)(hR:Rd w r q l 0)(hl:Bs l)(h:2≤l.length):
 Calls Tryz.prog 33 #[.pointer (some ⟨r,0,none⟩)] w fun o w'=>o = .returned (.int .u16 (ofLe (l.take 2):Int))∧Rd w' r q (l.drop 2) 0∧Kp (· = q) w w':=by
 have:=rtwo_any r q l 0 w hR hl;rw [(tkB_in h).1,(tkB_in h).2.1,(tkB_in h).2.2] at this;exact this
theorem rfour_in (r q:Nat)(l:List Nat)(w:World)(hR:Rd w r q l 0)(hl:Bs l)(h:4≤l.length):
 Calls Tryz.prog 31 #[.pointer (some ⟨r,0,none⟩)] w fun o w'=>o = .returned (.int .u32 (ofLe (l.take 4):Int))∧Rd w' r q (l.drop 4) 0∧Kp (· = q) w w':=by
 have:=rfour_any r q l 0 w hR hl;rw [(tkB_in h).1,(tkB_in h).2.1,(tkB_in h).2.2] at this;exact this
theorem reight_in (r q:Nat)(l:List Nat)(w:World)(hR:Rd w r q l 0)(hl:Bs l)(h:8≤l.length):
 Calls Tryz.prog 35 #[.pointer (some ⟨r,0,none⟩)] w fun o w'=>o = .returned (.int .u64 (ofLe (l.take 8):Int))∧Rd w' r q (l.drop 8) 0∧Kp (· = q) w w':=by
 have:=reight_any r q l 0 w hR hl;rw [(tkB_in h).1,(tkB_in h).2.1,(tkB_in h).2.2] at this;exact this
end
end Go.Proofs.YtdjiopacieadpaaGreatDoor
namespace CrcPlain
section
abbrev W:=BitVec 32
def P:W:=0xedb88320#32
def step (r:W):W:=(r >>> 1) ^^^ (if r.getLsbD 0=true then P else 0#32)
def unstep (r:W):W:=if r.getLsbD 31=true then ((r ^^^ P) <<< 1) ||| 1#32 else r <<< 1
theorem step_bit (r:W)(i:Nat):(step r).getLsbD i=(r.getLsbD (i+1) ^^ (r.getLsbD 0 && P.getLsbD i)):=by
 unfold step;rw [BitVec.getLsbD_xor,BitVec.getLsbD_ushiftRight,Nat.add_comm 1 i];cases h:r.getLsbD 0<;>simp
theorem step_xor (a b:W):step (a ^^^ b)=step a ^^^ step b:=by
 apply BitVec.eq_of_getLsbD_eq;intro i _;rw [BitVec.getLsbD_xor,step_bit,step_bit,step_bit,BitVec.getLsbD_xor,BitVec.getLsbD_xor];cases a.getLsbD (i+1)<;>cases b.getLsbD (i+1)<;>cases a.getLsbD 0<;>cases b.getLsbD 0<;>cases P.getLsbD i<;>rfl
def steps:Nat→W→W
 | 0,r=>r
 | n+1,r=>steps n (step r)
def unsteps:Nat→W→W
 | 0,r=>r
 | n+1,r=>unsteps n (unstep r)
theorem steps_add (m n:Nat)(r:W):steps (m+n) r=steps n (steps m r):=by
 induction m generalizing r with
 | zero=>simp [steps]
 | succ m ih=>rw [Nat.succ_add];exact ih (step r)
theorem steps_succ' (n:Nat)(r:W):steps (n+1) r=step (steps n r):=steps_add n 1 r
theorem steps_xor (n:Nat)(a b:W):steps n (a ^^^ b)=steps n a ^^^ steps n b:=by
 induction n generalizing a b with
 | zero=>rfl
 | succ n ih=>show steps n (step (a ^^^ b))=_;rw [step_xor,ih];rfl
def byte (r x:W):W:=steps 8 (r ^^^ x)
def run (r:W)(l:List W):W:=l.foldl byte r
def more (s:W)(l:List W):W:= ~~~ (run (~~~ s) l)
theorem run_append (r:W)(l m:List W):run r (l++m)=run (run r l) m:=List.foldl_append ..
theorem step_shr (r:W)(h:r.getLsbD 0=false):step r=r >>> 1:=by
 unfold step;rw [h];simp
theorem steps_shl (x:W)(n:Nat):∀k,k≤n→(∀i,32-n≤i→x.getLsbD i=false)→steps k (x <<< n)=x <<< (n-k):=by
 intro k hk hx;induction k with
 | zero=>rfl
 | succ k ih=>
  rw [steps_succ',ih (by omega)];have h0:(x <<< (n-k)).getLsbD 0=false:=by
   rw [BitVec.getLsbD_shiftLeft];simp;omega
  rw [step_shr _ h0];apply BitVec.eq_of_getLsbD_eq;intro i hi;rw [BitVec.getLsbD_ushiftRight,BitVec.getLsbD_shiftLeft,BitVec.getLsbD_shiftLeft];by_cases a:i<n-(k+1)
  ·have b:1+i<n-k:=by omega
   simp [a,b]
  ·have b:¬1+i<n-k:=by omega
   have c:1+i-(n-k)=i-(n-(k+1)):=by omega
   simp only [a,b,c,decide_false,Bool.not_false,Bool.and_true,hi,decide_true,Bool.true_and];by_cases d:1+i<32
   ·simp [d]
   ·have:i=31:=by omega
    subst this;rw [hx (31-(n-(k+1))) (by omega)];simp
def table:List W:=[0x00000000#32,0x1db71064#32,0x3b6e20c8#32,0x26d930ac#32,0x76dc4190#32,0x6b6b51f4#32,0x4db26158#32,0x5005713c#32,
 0xedb88320#32,0xf00f9344#32,0xd6d6a3e8#32,0xcb61b38c#32,0x9b64c2b0#32,0x86d3d2d4#32,0xa00ae278#32,0xbdbdf21c#32]
theorem table_is:∀k:Fin 16,steps 4 (BitVec.ofNat 32 k.val)=table.getD k.val 0#32:=by decide
theorem split4 (r:W):r=((r >>> 4) <<< 4) ^^^ (r &&& 15#32):=by
 apply BitVec.eq_of_getLsbD_eq;intro i hi;rw [BitVec.getLsbD_xor,BitVec.getLsbD_shiftLeft,BitVec.getLsbD_ushiftRight,BitVec.getLsbD_and];by_cases h:i<4
 ·have:(15#32).getLsbD i=true:=by
   match i,h with
   | 0,_=>decide
   | 1,_=>decide
   | 2,_=>decide
   | 3,_=>decide
  simp [h,this]
 ·have:(15#32).getLsbD i=false:=by
   rw [show (15#32:W)=BitVec.ofNat 32 (2^4-1) from rfl,BitVec.getLsbD_ofNat,Nat.testBit_two_pow_sub_one];simp [h]
  have e:4+(i-4)=i:=by omega
  simp only [h,this,hi,e,decide_true,decide_false,Bool.true_and,Bool.not_false,Bool.and_false,Bool.xor_false]
theorem nibble (r:W):steps 4 r=table.getD (r &&& 15#32).toNat 0#32 ^^^ (r >>> 4):=by
 conv=>lhs;rw [split4 r]
 rw [steps_xor,BitVec.xor_comm];have hlt:(r &&& 15#32).toNat < 16:=by
  rw [BitVec.toNat_and];exact Nat.lt_of_le_of_lt Nat.and_le_right (by decide)
 have h1:=table_is ⟨(r &&& 15#32).toNat,hlt⟩;simp only [BitVec.ofNat_toNat,BitVec.setWidth_eq] at h1;have h2:=steps_shl (r >>> 4) 4 4 (Nat.le_refl _) (fun i hi=>by
  rw [BitVec.getLsbD_ushiftRight];exact BitVec.getLsbD_of_ge _ _ (by omega))
 rw [h1,h2,Nat.sub_self,BitVec.shiftLeft_zero]
def one:W:=0x80000000#32
def timesTo (a b:W):Nat→W
 | 0=>0#32
 | j+1=>timesTo a b j ^^^ (if a.getLsbD (31-j)=true then steps j b else 0#32)
def times (a b:W):W:=timesTo a b 32
def low (r:W)(k:Nat):W:=r &&& BitVec.ofNat 32 (2 ^ k-1)
def gap (from_ to_:W):W:=unsteps 32 to_ ^^^ from_
end
end CrcPlain
namespace Go.Proofs.YtdjiopacieadpaaGreatDoor
section
open CrcPlain
def J (x:BitVec 32):Int:=x.toNat
def K (x:BitVec 8):Int:=x.toNat
theorem K_nonneg (x:BitVec 8):0≤K x:=Int.natCast_nonneg _
theorem K_lt (x:BitVec 8):K x<256:=by
 have:=x.isLt;unfold K;omega
theorem J_xor (x y:BitVec 32):bits .xor .u32 (J x) (J y)=J (x ^^^ y):=by
 unfold J;rw [u32_xor_nat _ _ (by have:=x.isLt;omega) (by have:=y.isLt;omega),BitVec.toNat_xor]
theorem J_and (x y:BitVec 32):bits .and .u32 (J x) (J y)=J (x &&& y):=by
 unfold J;rw [u32_and_nat _ _ (by have:=x.isLt;omega) (by have:=y.isLt;omega),BitVec.toNat_and]
theorem J_shr (x:BitVec 32)(k:Nat):J x / (2:Int) ^ k=J (x >>> k):=by
 unfold J;rw [BitVec.toNat_ushiftRight,Nat.shiftRight_eq_div_pow];simp
theorem J_shr4 (x:BitVec 32):J x / (16:Int)=J (x >>> 4):=J_shr x 4
def wd (b:BitVec 8):BitVec 32:=b.setWidth 32
theorem J_wd (b:BitVec 8):J (wd b)=K b:=by
 unfold J K wd;rw [BitVec.toNat_setWidth,Nat.mod_eq_of_lt (by have:=b.isLt;omega)]
theorem J_not (x:BitVec 32):bits .xor .u32 IntKind.u32.max (J x)=J (~~~ x):=by
 have e:IntKind.u32.max=J (BitVec.allOnes 32):=by decide
 rw [e,J_xor];rw [BitVec.xor_comm,BitVec.xor_allOnes]
theorem fifteen_is:J 15#32=15:=by decide
def Tab (w:World):Prop:= ∀i:Nat,i<16→w.cell? ⟨1,i,none⟩=some (.int .u32 (J (table.getD i 0#32)))
theorem Tab.size {w:World}(h:Tab w):1<w.heap.size:=World.block_lt_of_cell? w ⟨1,0,none⟩ (h 0 (by omega))
theorem nibble_at {w:World}(h:Tab w)(R:BitVec 32):∃(i:Nat) (T S R2:BitVec 32),i<16∧bits .and .u32 (J R) 15=(i:Int)∧w.cell? ⟨1,i,none⟩=some (.int .u32 (J T))∧J R / (16:Int)=J S∧
 bits .xor .u32 (J T) (J S)=J R2∧R2=steps 4 R:=by
 have hlt:(R &&& 15#32).toNat < 16:=by
  rw [BitVec.toNat_and];exact Nat.lt_of_le_of_lt Nat.and_le_right (by decide)
 refine ⟨(R &&& 15#32).toNat,table.getD (R &&& 15#32).toNat 0#32,R >>> 4,_,hlt,?_,h _ hlt,J_shr4 R,J_xor _ _,(nibble R).symm⟩;rw [←fifteen_is,J_and];rfl
end
section
open Go.RowKit CrcPlain
theorem ret_u32 {a b:Int}(h:a=b):Ending.returned (.int .u32 a)=Ending.returned (.int .u32 b):=by rw [h]
theorem val_u32 {a b:Int}(h:a=b):Value.int .u32 a=Value.int .u32 b:=by rw [h]
def Lv (l:List (BitVec 8)):List Value:=l.map fun b=> .int .u8 (K b)
theorem Lv_len (l:List (BitVec 8)):(Lv l).length = l.length:=by simp [Lv]
theorem Lv_get {l:List (BitVec 8)}{k:Nat}(h:k<l.length):(Lv l)[k]?=some (.int .u8 (K l[k])):=by simp [Lv,h]
def ws (l:List (BitVec 8)):List (BitVec 32):=l.map wd
theorem run_take (r:BitVec 32)(l:List (BitVec 8))(k:Nat)(h:k<l.length):run r (ws (l.take (k+1)))=byte (run r (ws (l.take k))) (wd l[k]):=by
 rw [List.take_succ_eq_append_getElem h];unfold ws;rw [List.map_append,run_append];rfl
theorem more_any (s:BitVec 32)(n:Int)(hn:n=J s)(v:Value)(l:List (BitVec 8))(w:World)(hv:Sl w v (Lv l))(hT:Tab w):
 Calls Tryz.prog 120 #[.int .u32 n,v] w fun e w'=>e = .returned (.int .u32 (J (more s (ws l))))∧w=w':=by
 subst hn;obtain ⟨a,c,rfl,hc,hcm,h1⟩:=hv;rw [Lv_len] at hc ⊢;unfold maxLen at hcm;have hx:=J_not s;have HT:=hid hT;clear hT;go_enter Tryz.func120,Tryz.ntmps120;go_wp2;clear hx;go_loop [5,12] (fun r i=> ∃k:Nat,k≤l.length∧i = .int .i64 k∧r = .int .u32 (J (run (~~~ s) (ws (l.take k))))) (fun _ i=>l.length-(intOf i).toNat)
 case atStart=>exact ⟨0,Nat.zero_le _,rfl,rfl⟩
 case round=>
  obtain ⟨k,hk,rfl,rfl⟩:=hrel;by_cases hlt:k<l.length
  ·rcases h1 with ⟨h0,_⟩ | ⟨g1,o1,rfl,hg1,hc1⟩
   ·simp [Lv] at h0;subst h0;simp at hlt
   have c1:w.cell? ⟨g1,o1+k,none⟩=some (.int .u8 (K l[k])):=hc1 k _ (Lv_get hlt);clear hc1;have hi:(k:Int)<(l.length:Int):=by omega
   have HR:=hid (run_take (~~~ s) l k hlt);obtain ⟨R,hR⟩:∃R,run (~~~ s) (ws (l.take k))=R:=⟨_,rfl⟩;obtain ⟨b,hb⟩:∃b,l[k]=b:=⟨_,rfl⟩;rw [hR,hb] at HR;rw [hb] at c1;rw [hR];clear hR hb;obtain ⟨R1,hR1⟩:∃R1,R ^^^ wd b=R1:=⟨_,rfl⟩;have E0:IntKind.u32.wrap (K b)=J (wd b):=by
    rw [J_wd,IntKind.wrap_u32'];have:=K_nonneg b;have:=K_lt b;omega
   have E1:bits .xor .u32 (J R) (J (wd b))=J R1:=by rw [J_xor,hR1]
   have HR1:=hid hR1;clear hR1;obtain ⟨i1,T1,S1,R2,hi1,EA1,CT1,ES1,EX1,hR2⟩:=nibble_at HT.out R1;have HR2:=hid hR2;clear hR2;obtain ⟨i2,T2,S2,R3,hi2,EA2,CT2,ES2,EX2,hR3⟩:=nibble_at HT.out R2;have HR3:=hid hR3;clear hR3;go_wp2;go_round
   case rel=>exact ⟨k+1,by omega,by go_num,val_u32 (by rw [HR.out,HR3.out,HR2.out,←HR1.out,←steps_add];rfl)⟩
   case measure=>simp [intOf];omega
  ·have hx:=J_not (run (~~~ s) (ws (l.take k)));go_wp2;go_ret;exact ⟨ret_u32 (by rw [List.take_of_length_le (by omega)];rfl),rfl⟩
theorem sum_bits (v:Value)(l:List (BitVec 8))(w:World)(hv:Sl w v (Lv l))(hT:Tab w):
 Calls Tryz.prog 67 #[v] w fun e w'=>e = .returned (.int .u32 (J (more 0#32 (ws l))))∧w=w':=by
 have z:(0:Int)=J 0#32:=by decide
 have Z:=hid z;have HV:=hid hv;have HT:=hid hT;clear z hv hT;go_enter Tryz.func67,Tryz.ntmps67;go_wp2_with fail;refine (more_any 0#32 _ Z.out v l _ HV.out HT.out).mono ?_;rintro e w' ⟨rfl,rfl⟩;go_wp2_with fail;go_ret;exact ⟨rfl,rfl⟩
def crcF (l:List Nat):Nat:=(more 0#32 (ws (l.map (BitVec.ofNat 8)))).toNat
theorem crcF_lt (l:List Nat):crcF l<4294967296:=(more 0#32 (ws (l.map (BitVec.ofNat 8)))).isLt
theorem Lb_bits {l:List Nat}(h:Bs l):Lb l=Lv (l.map (BitVec.ofNat 8)):=by
 unfold Lb Lv;rw [List.map_map];apply List.map_congr_left;intro b hb;show _=Value.int .u8 (K (BitVec.ofNat 8 b))
 unfold K;rw [BitVec.toNat_ofNat,Nat.mod_eq_of_lt (by have:=h b hb;omega)]
theorem Tab.below {w w':World}{B:Nat}(h:Tab w)(hb:Below B w w')(hB:1<B):Tab w':=fun i hi=>by rw [hb.cell (p:=⟨1,i,none⟩) hB];exact h i hi
theorem Tab.kp {w w':World}{F:Nat→Prop}(h:Tab w)(hk:Kp F w w')(hF:¬F 1):Tab w':=fun i hi=>by rw [hk.cell (p:=⟨1,i,none⟩) h.size hF];exact h i hi
theorem sum_any (v:Value)(l:List Nat)(w:World)(hv:Sl w v (Lb l))(hl:Bs l)(hT:Tab w):
 Calls Tryz.prog 67 #[v] w fun e w'=>e = .returned (.int .u32 (crcF l:Int))∧w=w':=by
 rw [Lb_bits hl] at hv;exact sum_bits v _ w hv hT
end
section
open Go.RowKit
def headF (ep sq:Nat)(b:List Nat):List Nat:=le b.length 2++le ep 8++le sq 8++b
def frameF (ep sq:Nat)(b:List Nat):List Nat:=headF ep sq b++le (crcF (headF ep sq b)) 4
theorem Bs_app {a b:List Nat}(ha:Bs a)(hb:Bs b):Bs (a++b):=by
 intro x hx;rcases List.mem_append.1 hx with h | h
 ·exact ha x h
 ·exact hb x h
theorem headF_bytes {ep sq:Nat}{b:List Nat}(h:Bs b):Bs (headF ep sq b):=Bs_app (Bs_app (Bs_app (le_bytes _ _) (le_bytes _ _)) (le_bytes _ _)) h
theorem headF_len (ep sq:Nat)(b:List Nat):(headF ep sq b).length = 18+b.length:=by
 unfold headF;simp only [List.length_append,le_len]
theorem frameF_len (ep sq:Nat)(b:List Nat):(frameF ep sq b).length = 22+b.length:=by
 unfold frameF;rw [List.length_append,headF_len,le_len];omega
theorem Sl_ob {w:World}{v:Value}{xs:List Value}(h:Sl w v xs):xs≠[]→ ∃b,v.ownBlock=some b∧b<w.heap.size:=by
 obtain ⟨a,cap,rfl,_,_,h9⟩:=h;intro hne;rcases h9 with ⟨h9,_⟩ | ⟨b,off,rfl,hlt,_⟩
 ·exact absurd h9 hne
 ·exact ⟨b,rfl,hlt⟩
theorem Sl_lt {w:World}{v:Value}{xs:List Value}(h:Sl w v xs)(hne:xs≠[]):∀b,v.ownBlock=some b→b<w.heap.size:=by
 obtain ⟨b,h1,h2⟩:=Sl_ob h hne;intro b' h3;rw [h1] at h3;injection h3 with h3;omega
theorem fput_any (ep sq:Nat)(b:List Nat)(bv:Value)(w:World)(hb:Sl w bv (Lb b))(hbs:Bs b)(h0:0<b.length)(h32:b.length≤32)(hep:ep<18446744073709551616)(hsq:sq<18446744073709551616)(hT:Tab w):
 Calls Tryz.prog 178 #[.agg #[.int .u64 ep,.int .u64 sq,bv]] w fun o w'=> ∃v',o = .returned (.tuple #[v',.int .i64 0])∧w'.ownsRow w.heap.size 5 1 v' (frameF ep sq b).length (Lb (frameF ep sq b))∧Below w.heap.size w w':=by
 obtain ⟨a,c,rfl,hc,hcm⟩:=Sl_partsB hb;obtain ⟨n,hn⟩:∃n,b.length=n:=⟨_,rfl⟩;have HB:=hid hb;have HBS:=hid hbs;have HN:=hid hn;have HT:=hid hT;have HEP:=hid hep;have HSQ:=hid hsq;have hne:Lb b≠[]:=fun e=>by have:=Lb_len b;rw [e] at this;simp at this;omega
 have HLT:=hid (Sl_lt hb hne);rw [hn] at h0 h32 hc HB HLT ⊢;have h33:¬(32:Int)<(n:Int):=by omega
 have hw2:IntKind.u16.wrap (n:Int)=(n:Int):=by rw [IntKind.wrap_u16];omega
 clear hb hbs hn hT hep hsq hne;go_enter Tryz.func178,Tryz.ntmps178;go_wp2_with fail;have hP:((w.alloc (.cells #[.int .u64 ep,.int .u64 sq,.slice a n c] 220)).alloc (.cells #[.slice none 0 0] 127)).heap[w.heap.size]?=some (.cells #[.int .u64 ep,.int .u64 sq,.slice a n c] 220 (0,0)):=by
  rw [heap_alloc_old (h:=by simp)];exact heap_alloc_new w _
 have hW:=Wr.new (w.alloc (.cells #[.int .u64 ep,.int .u64 sq,.slice a n c] 220));rw [World.size_alloc] at hW;have hb0:=((Below.refl w.heap.size w).alloc (Nat.le_refl _) (.cells #[.int .u64 ep,.int .u64 sq,.slice a n c] 220)).alloc (by simp) (.cells #[.slice none 0 0] 127);obtain ⟨w0,hw0⟩:∃w0,(w.alloc (.cells #[.int .u64 ep,.int .u64 sq,.slice a n c] 220)).alloc (.cells #[.slice none 0 0] 127)=w0:=⟨_,rfl⟩;have hs0:w0.heap.size=w.heap.size+2:=by rw [←hw0];simp
 rw [hw0] at hP hW hb0 ⊢;have HP:=hid hP;have HW:=hid hW;have HB0:=hid hb0;have HS0:=hid hs0;have HBW:=hid (Sl_below HB.out hb0 (Nat.le_refl _));have HTW:=hid (HT.out.below hb0 (HT.out.size));clear hP hW hb0 hw0 hs0;have cell0:∀w1:World,Kp (· = w.heap.size+1) w0 w1→w1.cell? ⟨w.heap.size,0,none⟩=some (.int .u64 ep)∧w1.cell? ⟨w.heap.size,1,none⟩=some (.int .u64 sq)∧w1.cell? ⟨w.heap.size,2,none⟩=some (.slice a n c):=by
  intro w1 hk;have h1:w1.heap[w.heap.size]?=_:=(hk.block w.heap.size (by rw [HS0.out];omega) (by omega)).trans HP.out;exact ⟨(blk h1).1 0,(blk h1).1 1,(blk h1).1 2⟩
 have CELL:=hid cell0;clear cell0;refine (two_any _ [] n _ HW.out (by omega) (by simp)).mono ?_;rintro o w1 ⟨rfl,h1,h2⟩;have HW1:=hid h1;have HK1:=hid h2;obtain ⟨k0,k1,k2⟩:=CELL.out _ HK1.out;clear h1 h2;go_wp2_with fail;refine (eight_any _ _ ep _ HW1.out HEP.out (by simp [le_len])).mono ?_;rintro o w2 ⟨rfl,h1,h2⟩;have HW2:=hid h1;have HK2:=hid (HK1.out.trans h2);clear h1 h2 k0 k1 k2;obtain ⟨k0,k1,k2⟩:=CELL.out _ HK2.out;go_wp2_with fail;refine (eight_any _ _ sq _ HW2.out HSQ.out (by simp [le_len])).mono ?_;rintro o w3 ⟨rfl,h1,h2⟩;have HW3:=hid h1;have HK3:=hid (HK2.out.trans h2);clear h1 h2 k0 k1 k2;obtain ⟨k0,k1,k2⟩:=CELL.out _ HK3.out;go_wp2_with fail;refine (put_any _ _ b _ _ HW3.out (Sl_kp HBW.out HK3.out (fun b hb=>by have:=HLT.out b hb;omega)) (by rw [HN.out];exact h0) (by rw [HN.out];simp [le_len];omega)).mono ?_;rintro o w4 ⟨rfl,h1,h2⟩;have HW4:=hid (show Wr w4 (w.heap.size+1) (headF ep sq b) by unfold headF;rw [HN.out];exact h1);have HK4:=hid (HK3.out.trans h2);clear h1 h2 k0 k1 k2;go_wp2_with fail;refine (out_any _ _ _ HW4.out (by rw [headF_len,HN.out];omega)).mono ?_;rintro o w5 ⟨v5,rfl,h1,h2⟩;have HO5:=hid h1;have HB5:=hid h2;clear h1 h2;have HK5:=hid (HK4.out.trans (Kp.of_below HB5.out (Nat.le_refl _)));go_wp2_with fail;refine (sum_any _ (headF ep sq b) _ (Sl_of_own HO5.out) (headF_bytes HBS.out) (HTW.out.kp HK5.out (by have:=HT.out.size;omega))).mono ?_;rintro o w6 ⟨rfl,hw⟩;obtain rfl:=hw;go_wp2_with fail;refine (four_any _ _ (crcF (headF ep sq b)) _ (HW4.out.below HB5.out (Nat.le_refl _)) (crcF_lt _) (by rw [headF_len,HN.out];omega)).mono ?_;rintro o w7 ⟨rfl,h1,h2⟩;have HW7:=hid (show Wr w7 (w.heap.size+1) (frameF ep sq b) from h1);have HK7:=hid (HK5.out.trans h2);clear h1 h2;go_wp2_with fail;refine (out_any _ _ _ HW7.out (by rw [frameF_len,HN.out];omega)).mono ?_;rintro o w8 ⟨v8,rfl,h1,h2⟩;have HO8:=hid h1;have HB8:=hid h2;clear h1 h2;go_wp2_with fail;go_ret2;have hk:Below w.heap.size w w7:=HB0.out.trans ((HK7.out.below (B:=w.heap.size) (by have:=HB0.out.size;exact this) (fun i hi=>by omega)));exact ⟨_,rfl,own_mono HO8.out hk.size,hk.trans (HB8.out.mono hk.size)⟩
theorem set3 {w:World}{R:Nat}{a b c x y z:Value}{t:TypeId}(h:w.heap[R]?=some (.cells #[a,b,c] t (0,0))):(((w.setCell ⟨R,0,none⟩ x).setCell ⟨R,1,none⟩ y).setCell ⟨R,2,none⟩ z).heap[R]?=some (.cells #[x,y,z] t (0,0)):=
 heap_setCell_same _ R 2 _ t z (heap_setCell_same _ R 1 _ t y (heap_setCell_same w R 0 _ t x h))
theorem set4 {w:World}{R:Nat}{a b c d x y z u:Value}{t:TypeId}(h:w.heap[R]?=some (.cells #[a,b,c,d] t (0,0))):((((w.setCell ⟨R,0,none⟩ x).setCell ⟨R,1,none⟩ y).setCell ⟨R,2,none⟩ z).setCell ⟨R,3,none⟩ u).heap[R]?=some (.cells #[x,y,z,u] t (0,0)):=
 heap_setCell_same _ R 3 _ t u (set3' h)
where set3' {w:World} {R:Nat} {a b c d x y z:Value} {t:TypeId} (h:w.heap[R]?=some (.cells #[a,b,c,d] t (0,0))):(((w.setCell ⟨R,0,none⟩ x).setCell ⟨R,1,none⟩ y).setCell ⟨R,2,none⟩ z).heap[R]?=some (.cells #[x,y,z,d] t (0,0)):=
 heap_setCell_same _ R 2 _ t z (heap_setCell_same _ R 1 _ t y (heap_setCell_same w R 0 _ t x h))
theorem below_set3 {w0 w:World}{B R:Nat}(h:Below B w0 w)(hR:B≤R)(x y z:Value):Below B w0 (((w.setCell ⟨R,0,none⟩ x).setCell ⟨R,1,none⟩ y).setCell ⟨R,2,none⟩ z):=
 ((h.setCell (p:=⟨R,0,none⟩) hR x).setCell (p:=⟨R,1,none⟩) hR y).setCell (p:=⟨R,2,none⟩) hR z
end
end Go.Proofs.YtdjiopacieadpaaGreatDoor
