/- TopNear: part Pbj: ImC EgF EgE. -/
import Derived.Test.YtdjiopacieadpaaGreatDoorPbi
set_option linter.unusedVariables false
set_option linter.unusedSimpArgs false
set_option maxRecDepth 8000
set_option maxHeartbeats 8000000
namespace Go.Proofs.YtdjiopacieadpaaGreatDoor
section
open Go.RowKit BookPlain
theorem take_le (n k:Nat)(l:List Nat):(le n k++l).take k=le n k∧(le n k++l).drop k=l:=by
 have h:=le_len n k;constructor
 ·rw [List.take_append_of_le_length (by omega),List.take_of_length_le (by omega)]
 ·rw [List.drop_append_of_le_length (by omega),List.drop_of_length_le (by omega)];rfl
theorem rtwo_at (r q n:Nat)(l:List Nat)(w:World)(hR:Rd w r q (le n 2++l) 0)(hl:Bs (le n 2++l))(hn:n<65536):
 Calls Tryz.prog 33 #[.pointer (some ⟨r,0,none⟩)] w fun o w'=>o = .returned (.int .u16 n)∧Rd w' r q l 0∧Kp (· = q) w w':=by
 have h:=rtwo_in r q _ w hR hl (by rw [List.length_append,le_len];omega);rw [(take_le n 2 l).1,(take_le n 2 l).2,ofLe_le,Nat.mod_eq_of_lt (by exact hn)] at h;exact h
theorem rfour_at (r q n:Nat)(l:List Nat)(w:World)(hR:Rd w r q (le n 4++l) 0)(hl:Bs (le n 4++l))(hn:n<4294967296):
 Calls Tryz.prog 31 #[.pointer (some ⟨r,0,none⟩)] w fun o w'=>o = .returned (.int .u32 n)∧Rd w' r q l 0∧Kp (· = q) w w':=by
 have h:=rfour_in r q _ w hR hl (by rw [List.length_append,le_len];omega);rw [(take_le n 4 l).1,(take_le n 4 l).2,ofLe_le,Nat.mod_eq_of_lt (by exact hn)] at h;exact h
theorem reight_at (r q n:Nat)(l:List Nat)(w:World)(hR:Rd w r q (le n 8++l) 0)(hl:Bs (le n 8++l))(hn:n<18446744073709551616):
 Calls Tryz.prog 35 #[.pointer (some ⟨r,0,none⟩)] w fun o w'=>o = .returned (.int .u64 n)∧Rd w' r q l 0∧Kp (· = q) w w':=by
 have h:=reight_in r q _ w hR hl (by rw [List.length_append,le_len];omega);rw [(take_le n 8 l).1,(take_le n 8 l).2,ofLe_le,Nat.mod_eq_of_lt (by exact hn)] at h;exact h
theorem bs_app {a b:List Nat}(ha:Bs a)(hb:Bs b):Bs (a++b):=fun x hx=>(List.mem_append.1 hx).elim (ha x) (hb x)
theorem im_bytes (q:List Bo):Bs (q.flatMap im14):=by
 intro x hx;obtain ⟨y,_,hy⟩:=List.mem_flatMap.1 hx;unfold im14 at hy;rcases List.mem_append.1 hy with hy | hy
 ·rcases List.mem_append.1 hy with hy | hy
  ·exact le_bytes _ _ x hy
  ·exact le_bytes _ _ x hy
 ·exact le_bytes _ _ x hy
theorem img_bytes (b:Bk):Bs (imgF b):=by
 unfold imgF imHead;refine bs_app (bs_app (bs_app (bs_app (bs_app (le_bytes _ _) (le_bytes _ _)) (le_bytes _ _)) (le_bytes _ _)) (le_bytes _ _)) (im_bytes _)
theorem im_len (q:List Bo):(q.flatMap im14).length = q.length*14:=by
 induction q with
 | nil=>rfl
 | cons y q ih=>simp only [List.flatMap_cons,List.length_append,ih,List.length_cons];simp [im14,le_len];omega
theorem img_len (b:Bk):(imgF b).length = 20+nT b.l*14:=by
 unfold imgF;rw [List.length_append,im_len,show (listB b).length = nT b.l from listL_len _];simp [imHead,le_len]
def IGet (w:World)(b:Bk)(e:Ending)(w':World):Prop:= ∃p F,e = .returned (.tuple #[.pointer (some ⟨p,0,none⟩),.int .i64 0])∧Bkk w' p F 48 b∧(∀x,F x→w.heap.size≤x)∧Below w.heap.size w w'
def rowsAt (b:Bk)(k:Nat):List Bo:=(listB b).take k++List.replicate (nT b.l-k) z
structure Igl (w:World)(b:Bk)(r q gb k:Nat)(W:World):Prop where
 rd:Rd W r q (((listB b).drop k).flatMap im14) 0
 row:W.heap[gb]?=some (Obj.cells ((rowsAt b k).flatMap boC).toArray 160 (0,0))
 bel:Below w.heap.size w W
 bx:W.heap[w.heap.size]?=some (Obj.cells #[.int .i64 b.s,.int .i64 b.c,.int .i64 b.g] 23 (0,0))
 ge:w.heap.size<q∧w.heap.size<r∧q<gb∧r<gb
theorem imget_any (b:Bk)(hs:Sound b)(v:Value)(w:World)(hv:Sl w v (Lb (imgF b))):Calls Tryz.prog 56 #[.agg #[.int .i64 b.s,.int .i64 b.c,.int .i64 b.g],v] w (IGet w b):=by
 obtain ⟨av,cv,rfl,_,_⟩:=Sl_partsB hv;have N:=new1 w (.cells #[.int .i64 b.s,.int .i64 b.c,.int .i64 b.g] 23);obtain ⟨x0,_,x1,_,x2,_⟩:=cells3 N.1;have hil:=img_len b;have b1:=hs.hs;have b2:=hs.hc;have b3:=hs.hn;have b4:=hs.hk;have b5:=hs.few;have b6:=hs.hg;have hM:M=1099511627776:=rfl;have HIL:=hid hil;have HG:=hid (geoCheck_ok b.s b.c b.g (w.alloc (.cells #[.int .i64 b.s,.int .i64 b.c,.int .i64 b.g] 23)) (by omega) (by omega) (by omega) (by omega) (by omega) (by omega));have g3:IntKind.i64.wrap (b.clock:Int)=(b.clock:Int):=by rw [IntKind.wrap_i64];omega
 have HN:=hid (And.intro (show b.s<65536 by omega) (And.intro (show b.c<4294967296 by omega) (And.intro (show b.next<4294967296 by omega) (And.intro (show b.clock<18446744073709551616 by omega) (show nT b.l<65536 by omega)))));have hn24:nT b.l≤24:=by omega
 have hs24:b.s≤24:=b1.2;have hc24:b.c≤24:=b2.2;have HS:=hid hs;have HV:=hid (Sl_below hv N.2.2 (Nat.le_refl _));have HN1:=hid N;have HMK:=hid (run_make160 (nT b.l) (by omega));clear N hs hv b1 b2 b3 b4 b5 b6 hM hil;have hlen20:¬(((imgF b).length : Nat):Int)<20:=by have:=HIL.out;omega
 generalize hne:(imgF b).length = n9 at *;clear hne;generalize hAe:w.heap.size=A at *;have HAE:=hid hAe;clear hAe;go_enter Tryz.func56,Tryz.ntmps56;go_wp2_with fail;rw [HAE.out];generalize w.alloc (.cells #[.int .i64 b.s,.int .i64 b.c,.int .i64 b.g] 23)=W at *;refine HG.out.mono ?_;rintro e w1 ⟨rfl,hb1⟩;have HOF:=hid (of_any (.slice av n9 cv) (imgF b) w1 (Sl_below HV.out hb1 (Nat.le_refl _)) (by have:=img_len b;omega));have hX1:=Bl.blk hb1 HN1.out.1;have HB1:=hid (HN1.out.2.2.trans (hb1.mono (by have:=HN1.out.2.1;omega)));have HX1:=hid hX1;clear hb1 hX1 x0 x1 x2;go_wp2_with fail;refine HOF.out.mono ?_;rintro e w2 ⟨r,q,rfl,hrd,hr,hq,hb2⟩;have hX2:=Bl.blk hb2 HX1.out;have HB2:=hid (HB1.out.trans (hb2.mono (Nat.le_of_lt (heap_lt HX1.out))));have HRQ:Hid (A<r∧A<q):=hid (by have:=heap_lt HX1.out;omega);have e2:imgF b=le b.s 2++(le b.c 4++(le b.next 4++(le b.clock 8++(le (nT b.l) 2++(listB b).flatMap im14)))):=by simp [imgF,imHead]
 rw [e2] at hrd;have hbs:Bs (le b.s 2++(le b.c 4++(le b.next 4++(le b.clock 8++(le (nT b.l) 2++(listB b).flatMap im14))))):=by rw [←e2];exact img_bytes b
 have tl:∀{x y:List Nat},Bs (x++y)→Bs y:=fun h z hz=>h z (List.mem_append_right _ hz)
 have HBS:=hid hbs;have hC:=hid (rtwo_at r q b.s _ w2 hrd hbs HN.out.1);have HX2:=hid hX2;clear hX2 hrd hr hq hb2 e2 hbs;go_wp2_with fail;refine hC.out.mono ?_;rintro e w3 ⟨rfl,hrd,hk3⟩;have hC4:=hid (rfour_at r q b.c _ w3 hrd (tl HBS.out) HN.out.2.1);clear hrd;go_wp2_with fail;refine hC4.out.mono ?_;rintro e w4 ⟨rfl,hrd,hk4⟩;have hC5:=hid (rfour_at r q b.next _ w4 hrd (tl (tl HBS.out)) HN.out.2.2.1);clear hrd;go_wp2_with fail;refine hC5.out.mono ?_;rintro e w5 ⟨rfl,hrd,hk5⟩;have hC6:=hid (reight_at r q b.clock _ w5 hrd (tl (tl (tl HBS.out))) HN.out.2.2.2.1);clear hrd;go_wp2_with fail;refine hC6.out.mono ?_;rintro e w6 ⟨rfl,hrd,hk6⟩;have hC7:=hid (rtwo_at r q (nT b.l) _ w6 hrd (tl (tl (tl (tl HBS.out)))) HN.out.2.2.2.2);clear hrd;go_wp2_with fail;refine hC7.out.mono ?_;rintro e w7 ⟨rfl,hrd,hk7⟩;have hk:=(((hk3.trans hk4).trans hk5).trans hk6).trans hk7;have hX7:=hk.blk HX2.out (by have:=HRQ.out.2;omega);have HB7:Hid (Below A w w7):=hid (HB2.out.trans (hk.below (by have:=heap_lt HX2.out;omega) (fun y e=>by have e':y=q:=e;have:=HRQ.out.2;omega)));have hll:(((listB b).flatMap im14).length : Int)=(nT b.l:Int)*14:=by rw [im_len,show (listB b).length = nT b.l from listL_len _];simp
 have hC8:=rleft_any r q _ 0 w7 hrd;rw [hll] at hC8;have HC8:=hid hC8;have HRD:=hid hrd;have HX7:=hid hX7;obtain ⟨x0,_,x1,_,x2,_⟩:=cells3 hX7;clear hk3 hk4 hk5 hk6 hk7 hk hX7 hrd hll hC8 hC hC4 hC5 hC6 hC7;have hbe1:((b.s:Int) != (b.s:Int))=false:=by simp
 have hbe2:((b.c:Int) != (b.c:Int))=false:=by simp
 have hlt1:¬(nT b.l:Int)*14<(nT b.l:Int)*14:=by omega
 go_wp2_with fail;refine HC8.out.mono ?_;rintro e w' ⟨rfl,rfl⟩;go_wp2_with fail;refine HC8.out.mono ?_;rintro e w' ⟨rfl,rfl⟩;have hmk:=HMK.out;go_wp2_with fail;have N8:=new1 w7 (.cells (List.flatMap boC (List.replicate (nT b.l) z)).toArray 160);have hst:Igl w b r q w7.heap.size 0 (w7.alloc (.cells (List.flatMap boC (List.replicate (nT b.l) z)).toArray 160)):=
  ⟨HRD.out.below N8.2.2 (Nat.le_refl _),N8.1,by rw [HAE.out];exact HB7.out.trans (N8.2.2.mono (Nat.le_of_lt (heap_lt HX7.out))),by rw [HAE.out];exact Bl.blk N8.2.2 HX7.out,by rw [HAE.out];exact ⟨HRQ.out.2,HRQ.out.1,by obtain ⟨_,hq,_⟩:=HRD.out.2.2;exact heap_lt hq,heap_lt HRD.out.1⟩⟩
 have HST:=hid hst;clear N8 hst hmk hbe1 hbe2 hlt1 x0 x1 x2 hlen20;generalize w7.heap.size=gb at *;generalize w7.alloc (.cells (List.flatMap boC (List.replicate (nT b.l) z)).toArray 160)=W8 at *;go_loopw [65] (fun s65 wr=> ∃k:Nat,s65 = .int .i64 k∧k≤nT b.l∧Igl w b r q gb k wr) (fun s65 _=>nT b.l-(intOf s65).toNat)
 case atStart=>exact ⟨0,rfl,Nat.zero_le _,HST.out⟩
 case round=>
  obtain ⟨k,rfl,hk,hI⟩:=hrel;have hnl:(listB b).length = nT b.l:=listL_len _;by_cases hlt:k<nT b.l
  ·have hkI:(k:Int)<(nT b.l:Int):=by omega
   have hkl:k<(listB b).length :=by omega
   have hx:=List.getElem?_eq_getElem hkl;have hdr:(listB b).drop k=(listB b)[k]::(listB b).drop (k+1):=List.drop_eq_getElem_cons hkl;generalize (listB b)[k]=x at hx hdr;obtain ⟨xi,xs,xu⟩:=x;obtain ⟨_,q2,q3,q4⟩:=listB_seat HS.out.toFine (List.mem_of_getElem? hx);dsimp only at q2 q3 q4;have hM:M=1099511627776:=rfl;have q5:xi<4294967296∧xu≤M:=by
    rcases q4 with e | ⟨_,e,_,e2⟩
    ·injection e with e _;exact absurd e q3
    ·exact ⟨e,e2⟩
   have hxs:xs≤24:=by omega
   have hwu:IntKind.i64.wrap (xu:Int)=(xu:Int):=by rw [IntKind.wrap_i64];omega
   have hrd:=hI.rd;have e2:((listB b).drop k).flatMap im14=le xi 4++(le xs 2++(le xu 8++((listB b).drop (k+1)).flatMap im14)):=by rw [hdr];simp [im14]
   rw [e2] at hrd;have hbs:Bs (le xi 4++(le xs 2++(le xu 8++((listB b).drop (k+1)).flatMap im14))):=by rw [←e2];exact im_bytes _
   have tl:∀{x y:List Nat},Bs (x++y)→Bs y:=fun h z hz=>h z (List.mem_append_right _ hz)
   have hC4:=hid (rfour_at r q xi _ wr hrd hbs q5.1);have HBS:=hid hbs;have HI:=hid hI;have HX:=hid hx;have HU:=hid (show xu<18446744073709551616 by omega);clear hI hrd e2 hbs hdr hx q2 q3 q4 q5 hM hkl hnl hlt;go_wp2_with fail;refine hC4.out.mono ?_;rintro e w3 ⟨rfl,hrd,hk3⟩;have hC2:=hid (rtwo_at r q xs _ w3 hrd (tl HBS.out) (by omega));clear hrd;go_wp2_with fail;refine hC2.out.mono ?_;rintro e w4 ⟨rfl,hrd,hk4⟩;have hC8:=hid (reight_at r q xu _ w4 hrd (tl (tl HBS.out)) HU.out);clear hrd;go_wp2_with fail;refine hC8.out.mono ?_;rintro e w5 ⟨rfl,hrd,hk5⟩;have hkk:=(hk3.trans hk4).trans hk5;have hrow:=hkk.blk HI.out.row (by have:=HI.out.ge;omega);have hnl:(listB b).length = nT b.l:=listL_len _;have hrl:(rowsAt b k).length = nT b.l:=by unfold rowsAt;rw [List.length_append,List.length_take,List.length_replicate];omega
   have hklt:k<(rowsAt b k).length :=by rw [hrl];have:=(List.getElem?_eq_some_iff.1 HX.out).1;omega
   have hset:(rowsAt b k).set k (xi,xs,xu)=rowsAt b (k+1):=by
    unfold rowsAt;have hkl:k<(listB b).length :=(List.getElem?_eq_some_iff.1 HX.out).1;have e1:nT b.l-k=(nT b.l-(k+1))+1:=by omega
    rw [e1,List.replicate_succ,List.set_append,if_neg (by rw [List.length_take];omega),List.take_add_one,HX.out,List.length_take,show k-min k (listB b).length = 0 by omega];simp
   have h1:=heap_setCell_same w5 gb (k*3) _ 160 (.int .u32 xi) hrow;have h2:=heap_setCell_same _ gb (k*3+1) _ 160 (.int .i64 xs) h1;have h3:=heap_setCell_same _ gb (k*3+2) _ 160 (.int .i64 xu) h2;have f0:=(blk hrow).2.1 (k*3);have f1:=(blk hrow).2.1 (k*3+1);have f2:=(blk hrow).2.1 (k*3+2);have cells:∀j,j<3→ ∃u,w5.cell? ⟨gb,k*3+j,none⟩=some u:=fun j hj=>by
    rw [(blk hrow).1 (k*3+j)];exact ⟨_,Array.getElem?_eq_getElem (by rw [List.size_toArray,boC_len,hrl];have:=hklt;omega)⟩
   obtain ⟨u0,y0⟩:=cells 0 (by omega);obtain ⟨u1,y1⟩:=cells 1 (by omega);obtain ⟨u2,y2⟩:=cells 2 (by omega);rw [Nat.add_zero] at y0;have hkW:=seatW_kp w5 gb k (xi,xs,xu);have hO:Igl w b r q gb (k+1) (seatW w5 gb k (xi,xs,xu)):=by
    refine ⟨?_,?_,(HI.out.bel.trans (hkk.below HI.out.bel.size (fun y e=>by have e':y=q:=e;have:=HI.out.ge;omega))).trans (hkW.below (by have:=HI.out.bel.size;have:=hkk.size;omega) (fun y e=>by have e':y=gb:=e;have:=HI.out.ge;omega)),hkW.blk (hkk.blk HI.out.bx (by have:=HI.out.ge;omega)) (by have:=HI.out.ge;omega),HI.out.ge⟩
    ·exact hrd.kp hkW (fun y hy e=>by have e':y=gb:=e;have:=HI.out.ge;omega)
    ·unfold seatW;rw [h3,←hset,boC_set (rowsAt b k) k (xi,xs,xu) hklt];simp
   have HO:=hid hO;clear hk3 hk4 hk5 hkk hrow hnl hrl hklt hset h1 h2 h3 cells hkW hO hrd;go_wp2_with fail;go_roundw;case rel=>exact ⟨k+1,by go_num,by omega,HO.out⟩
   case measure=>simp [intOf];omega
  ·have hkI:¬(k:Int)<(nT b.l:Int):=by omega
   have hkn:k=nT b.l:=by omega
   subst hkn;have hra:rowsAt b (nT b.l)=listB b:=by
    unfold rowsAt;rw [Nat.sub_self,List.take_of_length_le (by omega)];simp
   have hrow:=hI.row;rw [hra] at hrow;have hrb:Rb wr (.slice (some ⟨gb,0,none⟩) (nT b.l) (nT b.l)) (listB b):=by
    refine ⟨some ⟨gb,0,none⟩,nT b.l,by rw [hnl],fun i x hx=>⟨gb,rfl,heap_lt hrow,?_⟩⟩;have get:∀j,j<3→wr.cell? ⟨gb,i*3+j,none⟩=(boC x)[j]? :=by
     intro j hj;rw [(blk hrow).1 (i*3+j),List.getElem?_toArray,boC_get (listB b) i j hj,hx];rfl
    exact ⟨get 0 (by omega),get 1 (by omega),get 2 (by omega)⟩
   obtain ⟨x0,_,x1,_,x2,_⟩:=cells3 hI.bx;rw [HAE.out] at x0 x1 x2;have HOF:=hid (bof_any b HS.out _ wr hrb);have HBL:=hid hI.bel;clear hI hrow hrb hra hlt hnl;go_wp2_with fail;refine HOF.out.mono ?_;rintro e w5 ⟨p5,F5,rfl,hB5,hF5,hb5⟩;have hE:IGet w b (.returned (.tuple #[.pointer (some ⟨p5,0,none⟩),.int .i64 0])) w5:=⟨p5,F5,rfl,hB5,fun x hx=>Nat.le_trans HBL.out.size (hF5 x hx),HBL.out.trans (hb5.mono HBL.out.size)⟩;have HE:=hid hE;clear hB5 hF5 hb5 hE;go_wp2_with fail;go_ret2;exact HE.out
end
section
open Go.RowKit BookPlain FlatPlain
theorem nT_le:∀l:List Bo,nT l≤l.length
 | []=>Nat.le_refl _
 | x::l=>by
  have:=nT_le l;rw [nT_cons,List.length_cons];split<;>omega
theorem img_fits {b:Bk}(h:Sound b):0<(imgF b).length ∧(imgF b).length ≤20+14*min b.s b.c∧(imgF b).length ≤400:=by
 have h1:=img_len b;have h2:=nT_le b.l;have h3:=h.few;have h4:=h.len;have h5:=h.hs;have h6:=h.hc;omega
def SvA (w:World)(P:Ep)(S:Egs)(m:Em)(w':World):Prop:= ∃F' c',Step m.F F' w w'∧Pw w' P.p P.z P.n (saveE P.z P.k S).D F' c' 0∧c'≤m.c+3*P.k+17
def SvB (w:World)(P:Ep)(S:Egs)(m:Em)(A:Nat)(w':World):Prop:= ∃F' c',Step m.F F' w w'∧Pw w' P.p P.z P.n (saveE P.z P.k S).D F' c' 0∧c'≤m.c+3*P.k+17∧ ¬F' A
theorem SvA.made {w w' w2:World}{P:Ep}{S:Egs}{m:Em}{A:Nat}(h:SvA w P S m w')(hA:w'.heap.size=A)(hb:Below w'.heap.size w' w2):SvB w P S m A w2:=by
 obtain ⟨F',c',h1,h2,h3⟩:=h;exact ⟨F',c',h1.below hb,h2.new hb,h3,fun e=>by have:=h2.flt A e;omega⟩
theorem SvB.set {w w' w2:World}{P:Ep}{S:Egs}{m:Em}{A:Nat}(h:SvB w P S m A w')(hk:Kp (fun x=>x=A) w' w2)(hA:w.heap.size<A):SvB w P S m A w2:=by
 obtain ⟨F',c',h1,h2,h3,h4⟩:=h;refine ⟨F',c',⟨h1.kp.then hk (fun x e=>Or.inr (by have e2:x=A:=e;omega)),h1.sub,fun x hx=>by have:=h1.lt x hx;have:=hk.size;omega⟩,h2.stay hk (fun x hx e=>h4 (by have e2:x=A:=e;rw [←e2];exact hx)),h3,h4⟩
theorem saveP {P:Ep}{S:Egs}{c c' t:Nat}(h:EgP P S c t)(hz:64≤P.z)(hD:S.D.length=P.n*P.z)(hn:P.n≤96)(hc:c'≤c+3*P.k+17)(ht:t<400):EgP P (saveE P.z P.k S) c' (t+1):=by
 have hkn:=h.kn;have hg:=h.sl.gen.1;have hi:=img_fits h.so;have hfi:=h.fi;have hlb:=h.lb;have htb:=h.tb;obtain ⟨s1,s2⟩:=saved_slots (c:=S.L.last) (body:=imgF S.b) hz hD h.k2 (by omega) (by omega) (by omega) (by omega) (by omega) h.sl.sa h.sl.sb;have key:∀x:SlotPlain.Sl,x=(SlotPlain.gen S.oa S.ob+1,S.L.last,imgF S.b)→(∃b,Sound b∧b.s=S.b.s∧b.c=S.b.c∧b.g=S.b.g∧x.2.2=imgF b)∧x.1≤100+(t+1)∧x.2.1≤10000*(t+1)+100000:=by
  rintro x rfl;exact ⟨⟨S.b,h.so,rfl,rfl,rfl,rfl⟩,by show SlotPlain.gen S.oa S.ob+1≤_;omega,by show S.L.last≤_;omega⟩
 have i1:Img S.b.s S.b.c S.b.g (SlotPlain.saved S.oa S.ob S.L.last (imgF S.b)).1 (100+(t+1)) (10000*(t+1)+100000):=by
  intro x hx;unfold SlotPlain.saved at hx;split at hx
  ·injection hx with hx;exact key x hx.symm
  ·have:=h.sl.ia x hx;exact ⟨this.1,by omega,by omega⟩
 have i2:Img S.b.s S.b.c S.b.g (SlotPlain.saved S.oa S.ob S.L.last (imgF S.b)).2 (100+(t+1)) (10000*(t+1)+100000):=by
  intro x hx;unfold SlotPlain.saved at hx;split at hx
  ·have:=h.sl.ib x hx;exact ⟨this.1,by omega,by omega⟩
  ·injection hx with hx;exact key x hx.symm
 refine ⟨h.so,⟨s1,s2,i1,i2⟩,h.k2,h.kn,h.fi,Nat.le_succ_of_le h.lw,h.ok,?_,?_,by omega⟩
 ·have:=h.cb;have:=h.kn;omega
 ·show S.L.last≤_;omega
theorem esave_any (P:Ep)(S:Egs)(m:Em)(t:Nat)(q:Rq)(w:World)(h:Eg w P S m t)(ht:t<400):Calls Tryz.prog 77 #[.pointer (some ⟨P.e,0,none⟩),.agg (rqC q.k q.tag q.id q.seat q.ttl)] w (EDo w P m (t+1) (noWs (saveE P.z P.k S),S.ws++[cntP q S.ws.length])):=by
 have hz:=h.dv.pw.hz;have hn96:=h.dv.pw.n96;have HIP:=hid (fun W' (hb:Below w.heap.size w W')=>iput_any P.pb m.Fb (2400+2*t) S.b W' (h.bk.new hb) h.pl.so);have HCN:=hid (ecounted_any P q);have HG:=hid h.gl;have HFI:=hid (img_fits h.pl.so);have HSP:=hid (fun c' hc=>saveP (c':=c') h.pl hz.1 h.dv.pw.len hn96 hc ht);have HPL:=hid h.pl;have HLS:=hid (fun W' (hb:Below w.heap.size w W')=>llast_any P.l P.rl P.p P.z (2*P.k) (P.n-2*P.k) S.L m.v W' (h.dv.wl.new hb));have HFL:=hid h.dv.pw.flt;have HNE:Hid (¬Gd P m P.e):=hid (fun e=>h.ap.ac _ e (Or.inl rfl));have HELT:=hid (heap_lt h.en.hd);have HSV:=hid (fun W' (hb:Below w.heap.size w W') (v:Value) (hv:Sl W' v (Lb (imgF S.b))) (hvF:∀x,v.ownBlock=some x→ ¬m.F x)=>ssave_any P.s P.ra P.rb P.p P.z P.k P.n S.D m.F m.c S.oa S.ob v (imgF S.b) S.L.last W' (Bl.blk hb h.dv.ss) (h.dv.ra.new hb) (h.dv.rb.new hb) (h.dv.pw.new hb) h.pl.sl.sa h.pl.sl.sb (fun e=>h.ap.ad _ (Or.inl e) (Or.inr (Or.inl rfl))) (fun e=>h.ap.ad _ (Or.inl e) (Or.inr (Or.inr (Or.inl rfl)))) (fun e=>h.ap.ad _ (Or.inl e) (Or.inr (Or.inr (Or.inr (Or.inr (Or.inl rfl)))))) (by have:=h.pl.cb;have:=h.pl.tb;omega) (by have:=h.pl.kn;omega) h.pl.k2 (h.gl.new hb).tab (fun x hx=>by
  have h9:=h.ap.ad x (Or.inl hx);exact Nat.lt_of_not_le (fun e=>h9 (Or.inl e))) hv hvF (img_fits h.pl.so).1 (by have:=(img_fits h.pl.so).2.1;have:=h.pl.fi;omega) (img_bytes _) (by have:=h.pl.sl.gen.1;have:=h.pl.tb;omega) (by have:=h.pl.lb;have:=h.pl.tb;omega))
 have HWL:=hid (fun W' (hk:Kp m.F w W')=>h.dv.wl.stay hk (fun x hx e=>(h.dv.aw x e).1 hx) (fun e=>(h.dv.aw _ e).2 rfl));have HAW:=hid h.dv.aw;have HH:=hid h;unfold rqC at HCN ⊢;obtain ⟨W0,hW0⟩:∃W,w.alloc (.cells #[.int .i64 q.k,.int .u32 q.tag,.int .u32 q.id,.int .i64 q.seat,.int .i64 q.ttl] 48)=W:=⟨_,rfl⟩;have N:=new1 w (.cells #[.int .i64 q.k,.int .u32 q.tag,.int .u32 q.id,.int .i64 q.seat,.int .i64 q.ttl] 48);rw [hW0] at N;have hE0:=h.new N.2.2;have HE0:=hid hE0;have HN:=hid N;have HLT:=hid h.elt;obtain ⟨a0,_,a1,_,a2,_,a3,_,a4,_,a5,_,a6,_⟩:=cells7 hE0.en.hd;clear hE0 N h hz hn96;go_enter Tryz.func77,Tryz.ntmps77;go_wp2_with fail;refine (HIP.out _ HN.out.2.2).mono ?_;rintro e w1 ⟨v1,rfl,ho1,hb1⟩;have hbw:Below w.heap.size w w1:=HN.out.2.2.trans (hb1.mono HN.out.2.2.size);have hH1:EgH w1 P m.wv:=Bl.blk hb1 HE0.out.en.hd;have hQ1:=Bl.blk hb1 HN.out.1;obtain ⟨oa1,rn1,rfl,_,_⟩:=own_form ho1;have hvF:∀x,(Value.slice oa1 (imgF S.b).length rn1).ownBlock = some x→ ¬m.F x:=fun x hx e=>by
  have h1:=(ho1.lt x hx).1;have h2:=HFL.out x e;have h3:=HN.out.2.1;omega
 have HVF:=hid hvF;have HB1:=hid hbw;have HO1:=hid ho1;have HH1:=hid hH1;have HQ1:=hid hQ1;obtain ⟨G,hG⟩:∃G,SlotPlain.gen S.oa S.ob+1=G:=⟨_,rfl⟩;obtain ⟨N9,hN9⟩:∃G,(imgF S.b).length = G:=⟨_,rfl⟩;obtain ⟨C9,hC9⟩:∃G,crcF (imgF S.b)=G:=⟨_,rfl⟩;have HGE:=hid hG;have HNL:=hid hN9;have HCL:=hid hC9;rw [hN9] at HVF HO1 ⊢;have HST:Hid (∀W',Below w1.heap.size w1 W'→Step m.F m.F w W'):=hid (fun W' hb=>Step.new (HB1.out.trans (hb.mono HB1.out.size)) HFL.out);have HSV2:Hid (∀W',Below w1.heap.size w1 W'→Calls Tryz.prog 25 #[.pointer (some ⟨P.s,0,none⟩),.slice oa1 N9 rn1,.int .u64 S.L.last] W' (SSave S.oa S.ob S.L.last (imgF S.b) P.p P.z P.k P.n S.D m.F m.c W')):=hid (fun W' hb=>HSV.out W' (HB1.out.trans (hb.mono HB1.out.size)) _ (Sl_below (Sl_of_own HO1.out) hb (Nat.le_refl _)) HVF.out);have HLS2:Hid (∀W',Below w1.heap.size w1 W'→Calls Tryz.prog 138 #[.pointer (some ⟨P.l,0,none⟩)] W' fun e w'=>e = .returned (.int .u64 S.L.last)∧W'=w'):=hid (fun W' hb=>HLS.out W' (HB1.out.trans (hb.mono HB1.out.size)));clear a0 a1 a2 a3 a4 a5 a6 ho1 hb1 hbw hH1 hQ1 hvF hG hN9 hC9 HSV HLS;go_wp2_with fail;go_cut [7,8] (fun s7 s8 wc=> ∃A,s7 = .pointer (some ⟨A,0,none⟩)∧s8 = .int .i64 0∧wc.heap[A]?=some (.cells #[.int .u64 ((G:Nat):Int),.int .u64 ((S.L.last:Nat):Int),.int .i64 ((N9:Nat):Int),.int .u32 ((C9:Nat):Int)] 88 (0,0))∧w.heap.size<A∧EgH wc P m.wv∧wc.heap[w.heap.size]?=some (.cells #[.int .i64 q.k,.int .u32 q.tag,.int .u32 q.id,.int .i64 q.seat,.int .i64 q.ttl] 48 (0,0))∧SvB w P S m A wc)
 case first=>
  refine wp_region_held_drew (S:=fun w'=>EgH w' P m.wv∧w'.heap[w.heap.size]?=some (.cells #[.int .i64 q.k,.int .u32 q.tag,.int .u32 q.id,.int .i64 q.seat,.int .i64 q.ttl] 48 (0,0))) (by kernel_rfl) (⟨HH1.out,HQ1.out⟩) (fun hHeld=>?_);have HX0:Hid (Below w1.heap.size w1 w1.drew):=hid (Below.refl _ _).drew;generalize w1.drew=X0 at *;refine tkm 9 [(0,18),(1,19),(2,20),(3,21),(4,22),(5,23),(6,24),(7,25),(8,26)] (by kernel_rfl) (fun _ _ _ _ _ h=>h) (by assumption) ?_;iterate 9
   refine ysC (v:=?_) rfl rfl (fun w9 hS9=>?_) ?_;rotate_left
   ·obtain ⟨a0,_,a1,_,a2,_,a3,_,a4,_,a5,_,a6,_⟩:=cells7 hS9.1;go_simp;try with_reducible rfl
   simp only [Act.put,List.setIfInBounds_toArray,List.set_cons_zero,List.set_cons_succ]
  refine ysN ?_;refine rd2 9 14 (by kernel_rfl) rfl rfl (fun K9 hK9=>?_) (fun K9 hK9=>?_)
  ·go_simp;refine (HLS2.out X0 (HX0.out)).mono ?_;rintro e w9 ⟨rfl,rfl⟩;go_simp;refine hK9.out _ _ (hHeld) (fun hHeld=>?_);clear hK9 K9;refine rd2 10 14 (by kernel_rfl) rfl rfl (fun K9 hK9=>?_) (fun K9 hK9=>?_)
   ·go_simp;refine (HSV2.out X0 (HX0.out)).mono ?_;rintro e y2 ⟨F',c',rfl,hst,hpw,hcb⟩;have hs1:EgH y2 P m.wv:=hst.kp.blk hHeld.1 (fun e=>HNE.out (Or.inl e));have hs2:=hst.kp.blk hHeld.2 (fun e=>by have:=HFL.out _ e;omega);have hV2:SvA w P S m y2:=⟨F',c',(HST.out X0 (HX0.out)).trans hst,hpw,hcb⟩;rw [HGE.out,HNL.out,HCL.out];unfold hdV;go_simp;refine hK9.out _ _ (⟨hs1,hs2⟩) (fun hHeld=>?_);clear hK9 K9;clear hs1 hs2 hst hpw hcb;refine tkm 3 [(11,17),(12,29),(13,30)] (by kernel_rfl) (fun _ _ _ _ _ h=>h) (by assumption) ?_;iterate 3
     refine ysC (v:=?_) rfl rfl (fun w9 hS9=>?_) ?_;rotate_left
     ·obtain ⟨a0,_,a1,_,a2,_,a3,_,a4,_,a5,_,a6,_⟩:=cells7 hS9.1;go_simp;try with_reducible rfl
     simp only [Act.put,List.setIfInBounds_toArray,List.set_cons_zero,List.set_cons_succ]
    refine ysN ?_;refine rd1 14 (by kernel_rfl) rfl (fun K9 hK9=>?_);have N3:=new1 y2 (.cells #[.int .u64 0,.int .u64 0,.int .i64 0,.int .u32 0] 88);obtain ⟨A,hA⟩:∃A,y2.heap.size=A:=⟨_,rfl⟩;obtain ⟨y3,hY3⟩:∃W,y2.alloc (.cells #[.int .u64 0,.int .u64 0,.int .i64 0,.int .u32 0] 88)=W:=⟨_,rfl⟩;rw [hY3] at N3;have hs1:EgH y3 P m.wv:=Bl.blk N3.2.2 hHeld.1;have hs2:=Bl.blk N3.2.2 hHeld.2;have hAl:w.heap.size<A:=by have h9:=heap_lt hHeld.2;omega
    have hV3:=hV2.made hA N3.2.2;have hAA3:=And.intro N3.1 hAl;rw [hA] at hAA3;clear N3;go_simp;refine hK9.out _ _ (⟨hs1,hs2⟩) (fun hHeld=>?_);clear hK9 K9;clear hs1 hs2 hY3;refine rd1 15 (by kernel_rfl) rfl (fun K9 hK9=>?_);obtain ⟨z0,f0,z1,f1,z2,f2,z3,f3⟩:=cells4 hAA3.1;go_simp;have k7:=rset4_kp (F:=fun x=>x=A) (Kp.refl _ y3) rfl (.int .u64 G) (.int .u64 S.L.last) (.int .i64 N9) (.int .u32 C9);have hr6:=rset4 (x0:= .int .u64 G) (x1:= .int .u64 S.L.last) (x2:= .int .i64 N9) (x3:= .int .u32 C9) hAA3.1;have hs1:=k7.blk hHeld.1 (fun e=>by
     have h9:P.e=A:=e;have h8:=HELT.out;have:=hAA3.2;omega)
    have hs2:=k7.blk hHeld.2 (fun e=>by have h9:w.heap.size=A:=e;have:=hAA3.2;omega);have hV6:=hV3.set k7 hAA3.2;have hAl6:=hAA3.2;generalize ((((y3.setCell ⟨A,0,none⟩ (.int .u64 G)).setCell ⟨A,1,none⟩ (.int .u64 S.L.last)).setCell ⟨A,2,none⟩ (.int .i64 N9)).setCell ⟨A,3,none⟩ (.int .u32 C9))=y9 at *;refine hK9.out _ _ (⟨hs1,hs2⟩) (fun hHeld=>?_);clear hK9 K9;clear z0 f0 z1 f1 z2 f2 z3 f3 k7;refine tkm 1 [(16,8)] (by kernel_rfl) (fun _ _ _ _ _ h=>h) (by assumption) ?_;refine ysC (v:=?_) rfl rfl (fun w9 hS9=>?_) ?_;rotate_left
    ·obtain ⟨a0,_,a1,_,a2,_,a3,_,a4,_,a5,_,a6,_⟩:=cells7 hS9.1;go_simp;try with_reducible rfl
    simp only [Act.put,List.setIfInBounds_toArray,List.set_cons_zero,List.set_cons_succ];refine ysN ?_;refine wpAnyH_done (by kernel_rfl) ?_ _;go_wp2_with fail;go_meet
    exact ⟨A,rfl,rfl,hr6,hAl6,hs1,hs2,hV6⟩
   ·have N4:=new1 X0 (.cells #[.int .u64 0,.int .u64 0,.int .i64 0,.int .u32 0] 88);obtain ⟨A,hA⟩:∃A,X0.heap.size=A:=⟨_,rfl⟩;obtain ⟨y4,hY4⟩:∃W,X0.alloc (.cells #[.int .u64 0,.int .u64 0,.int .i64 0,.int .u32 0] 88)=W:=⟨_,rfl⟩;rw [hY4] at N4;have hs1:EgH y4 P m.wv:=Bl.blk N4.2.2 hHeld.1;have hs2:=Bl.blk N4.2.2 hHeld.2;have hAl:w.heap.size<A:=by have h9:=heap_lt hHeld.2;omega
    have hB4:Below w1.heap.size w1 y4:=(HX0.out).trans (N4.2.2.mono (HX0.out).size);have hAA4:=And.intro N4.1 hAl;rw [hA] at hAA4;clear N4;go_simp;refine hK9.out _ _ (⟨hs1,hs2⟩) (fun hHeld=>?_);clear hK9 K9;clear hs1 hs2 hY4;refine rd1 10 (by kernel_rfl) rfl (fun K9 hK9=>?_);go_simp;refine (HSV2.out y4 (hB4)).mono ?_;rintro e y5 ⟨F',c',rfl,hst,hpw,hcb⟩;have hs1:EgH y5 P m.wv:=hst.kp.blk hHeld.1 (fun e=>HNE.out (Or.inl e));have hs2:=hst.kp.blk hHeld.2 (fun e=>by have:=HFL.out _ e;omega);have hA5:=hst.kp.blk hAA4.1 (fun e=>by have:=HFL.out _ e;have:=hAA4.2;omega);have hV5:SvB w P S m A y5:=⟨F',c',(HST.out y4 (hB4)).trans hst,hpw,hcb,fun e=>by
     rcases hst.sub A e with e2 | e2
     ·have:=HFL.out _ e2;have:=hAA4.2;omega
     ·have:=heap_lt hAA4.1;omega⟩
    have hAA5:=And.intro hA5 hAA4.2;clear hA5;rw [HGE.out,HNL.out,HCL.out];unfold hdV;go_simp;refine hK9.out _ _ (⟨hs1,hs2⟩) (fun hHeld=>?_);clear hK9 K9;clear hs1 hs2 hst hpw hcb;refine tkm 3 [(11,17),(12,29),(13,30)] (by kernel_rfl) (fun _ _ _ _ _ h=>h) (by assumption) ?_;iterate 3
     refine ysC (v:=?_) rfl rfl (fun w9 hS9=>?_) ?_;rotate_left
     ·obtain ⟨a0,_,a1,_,a2,_,a3,_,a4,_,a5,_,a6,_⟩:=cells7 hS9.1;go_simp;try with_reducible rfl
     simp only [Act.put,List.setIfInBounds_toArray,List.set_cons_zero,List.set_cons_succ]
    refine ysN ?_;refine rd1 15 (by kernel_rfl) rfl (fun K9 hK9=>?_);obtain ⟨z0,f0,z1,f1,z2,f2,z3,f3⟩:=cells4 hAA5.1;go_simp;have k7:=rset4_kp (F:=fun x=>x=A) (Kp.refl _ y5) rfl (.int .u64 G) (.int .u64 S.L.last) (.int .i64 N9) (.int .u32 C9);have hr6:=rset4 (x0:= .int .u64 G) (x1:= .int .u64 S.L.last) (x2:= .int .i64 N9) (x3:= .int .u32 C9) hAA5.1;have hs1:=k7.blk hHeld.1 (fun e=>by
     have h9:P.e=A:=e;have h8:=HELT.out;have:=hAA5.2;omega)
    have hs2:=k7.blk hHeld.2 (fun e=>by have h9:w.heap.size=A:=e;have:=hAA5.2;omega);have hV6:=hV5.set k7 hAA5.2;have hAl6:=hAA5.2;generalize ((((y5.setCell ⟨A,0,none⟩ (.int .u64 G)).setCell ⟨A,1,none⟩ (.int .u64 S.L.last)).setCell ⟨A,2,none⟩ (.int .i64 N9)).setCell ⟨A,3,none⟩ (.int .u32 C9))=y9 at *;refine hK9.out _ _ (⟨hs1,hs2⟩) (fun hHeld=>?_);clear hK9 K9;clear z0 f0 z1 f1 z2 f2 z3 f3 k7;refine tkm 1 [(16,8)] (by kernel_rfl) (fun _ _ _ _ _ h=>h) (by assumption) ?_;refine ysC (v:=?_) rfl rfl (fun w9 hS9=>?_) ?_;rotate_left
    ·obtain ⟨a0,_,a1,_,a2,_,a3,_,a4,_,a5,_,a6,_⟩:=cells7 hS9.1;go_simp;try with_reducible rfl
    simp only [Act.put,List.setIfInBounds_toArray,List.set_cons_zero,List.set_cons_succ];refine ysN ?_;refine wpAnyH_done (by kernel_rfl) ?_ _;go_wp2_with fail;go_meet
    exact ⟨A,rfl,rfl,hr6,hAl6,hs1,hs2,hV6⟩
  ·have N6:=new1 X0 (.cells #[.int .u64 0,.int .u64 0,.int .i64 0,.int .u32 0] 88);obtain ⟨A,hA⟩:∃A,X0.heap.size=A:=⟨_,rfl⟩;obtain ⟨y6,hY6⟩:∃W,X0.alloc (.cells #[.int .u64 0,.int .u64 0,.int .i64 0,.int .u32 0] 88)=W:=⟨_,rfl⟩;rw [hY6] at N6;have hs1:EgH y6 P m.wv:=Bl.blk N6.2.2 hHeld.1;have hs2:=Bl.blk N6.2.2 hHeld.2;have hAl:w.heap.size<A:=by have h9:=heap_lt hHeld.2;omega
   have hB6:Below w1.heap.size w1 y6:=(HX0.out).trans (N6.2.2.mono (HX0.out).size);have hAA6:=And.intro N6.1 hAl;rw [hA] at hAA6;clear N6;go_simp;refine hK9.out _ _ (⟨hs1,hs2⟩) (fun hHeld=>?_);clear hK9 K9;clear hs1 hs2 hY6;refine rd1 9 (by kernel_rfl) rfl (fun K9 hK9=>?_);go_simp;refine (HLS2.out y6 (hB6)).mono ?_;rintro e w9 ⟨rfl,rfl⟩;go_simp;refine hK9.out _ _ (hHeld) (fun hHeld=>?_);clear hK9 K9;refine rd1 10 (by kernel_rfl) rfl (fun K9 hK9=>?_);go_simp;refine (HSV2.out y6 (hB6)).mono ?_;rintro e y8 ⟨F',c',rfl,hst,hpw,hcb⟩;have hs1:EgH y8 P m.wv:=hst.kp.blk hHeld.1 (fun e=>HNE.out (Or.inl e));have hs2:=hst.kp.blk hHeld.2 (fun e=>by have:=HFL.out _ e;omega);have hA8:=hst.kp.blk hAA6.1 (fun e=>by have:=HFL.out _ e;have:=hAA6.2;omega);have hV8:SvB w P S m A y8:=⟨F',c',(HST.out y6 (hB6)).trans hst,hpw,hcb,fun e=>by
    rcases hst.sub A e with e2 | e2
    ·have:=HFL.out _ e2;have:=hAA6.2;omega
    ·have:=heap_lt hAA6.1;omega⟩
   have hAA8:=And.intro hA8 hAA6.2;clear hA8;rw [HGE.out,HNL.out,HCL.out];unfold hdV;go_simp;refine hK9.out _ _ (⟨hs1,hs2⟩) (fun hHeld=>?_);clear hK9 K9;clear hs1 hs2 hst hpw hcb;refine tkm 3 [(11,17),(12,29),(13,30)] (by kernel_rfl) (fun _ _ _ _ _ h=>h) (by assumption) ?_;iterate 3
    refine ysC (v:=?_) rfl rfl (fun w9 hS9=>?_) ?_;rotate_left
    ·obtain ⟨a0,_,a1,_,a2,_,a3,_,a4,_,a5,_,a6,_⟩:=cells7 hS9.1;go_simp;try with_reducible rfl
    simp only [Act.put,List.setIfInBounds_toArray,List.set_cons_zero,List.set_cons_succ]
   refine ysN ?_;refine rd1 15 (by kernel_rfl) rfl (fun K9 hK9=>?_);obtain ⟨z0,f0,z1,f1,z2,f2,z3,f3⟩:=cells4 hAA8.1;go_simp;have k7:=rset4_kp (F:=fun x=>x=A) (Kp.refl _ y8) rfl (.int .u64 G) (.int .u64 S.L.last) (.int .i64 N9) (.int .u32 C9);have hr6:=rset4 (x0:= .int .u64 G) (x1:= .int .u64 S.L.last) (x2:= .int .i64 N9) (x3:= .int .u32 C9) hAA8.1;have hs1:=k7.blk hHeld.1 (fun e=>by
    have h9:P.e=A:=e;have h8:=HELT.out;have:=hAA8.2;omega)
   have hs2:=k7.blk hHeld.2 (fun e=>by have h9:w.heap.size=A:=e;have:=hAA8.2;omega);have hV6:=hV8.set k7 hAA8.2;have hAl6:=hAA8.2;generalize ((((y8.setCell ⟨A,0,none⟩ (.int .u64 G)).setCell ⟨A,1,none⟩ (.int .u64 S.L.last)).setCell ⟨A,2,none⟩ (.int .i64 N9)).setCell ⟨A,3,none⟩ (.int .u32 C9))=y9 at *;refine hK9.out _ _ (⟨hs1,hs2⟩) (fun hHeld=>?_);clear hK9 K9;clear z0 f0 z1 f1 z2 f2 z3 f3 k7;refine tkm 1 [(16,8)] (by kernel_rfl) (fun _ _ _ _ _ h=>h) (by assumption) ?_;refine ysC (v:=?_) rfl rfl (fun w9 hS9=>?_) ?_;rotate_left
   ·obtain ⟨a0,_,a1,_,a2,_,a3,_,a4,_,a5,_,a6,_⟩:=cells7 hS9.1;go_simp;try with_reducible rfl
   simp only [Act.put,List.setIfInBounds_toArray,List.set_cons_zero,List.set_cons_succ];refine ysN ?_;refine wpAnyH_done (by kernel_rfl) ?_ _;go_wp2_with fail;go_meet
   exact ⟨A,rfl,rfl,hr6,hAl6,hs1,hs2,hV6⟩
 case rest=>
  obtain ⟨A,rfl,rfl,hA,hAl,hH2,hQ2,F',c',hst,hpw,hcb,hnA⟩:=hcut;have HQ2:=hid hQ2;have HST2:=hid hst;have HPW:=hid hpw;have HCB:=hid hcb;have HRS:=hid (fun W' (hb:Below wc.heap.size wc W')=>lreset_any P.l P.rl P.p P.z (2*P.k) (P.n-2*P.k) G S.L m.v W' ((HWL.out _ hst.kp).new hb) (by have:=HGE.out;have:=HPL.out.sl.gen.1;have:=HPL.out.tb;unfold MX;omega));have HA2:=hid hA;clear hQ2 hst hpw hcb hnA;go_wp2_with fail;refine wp_region_held_drew (S:=fun w'=>EgH w' P m.wv∧w'.heap[A]?=some (.cells #[.int .u64 ((G:Nat):Int),.int .u64 ((S.L.last:Nat):Int),.int .i64 ((N9:Nat):Int),.int .u32 ((C9:Nat):Int)] 88 (0,0))) (by kernel_rfl) (⟨hH2,hA⟩) (fun hHeld=>?_);refine tkm 6 [(0,34),(1,35),(2,36),(3,37),(4,38),(5,39)] (by kernel_rfl) (fun _ _ _ _ _ h=>h) (by assumption) ?_;iterate 6
   refine ysC (v:=?_) rfl rfl (fun w9 hS9=>?_) ?_;rotate_left
   ·obtain ⟨a0,_,a1,_,a2,_,a3,_,a4,_,a5,_,a6,_⟩:=cells7 hS9.1;obtain ⟨b0,_,b1,_,b2,_,b3,_⟩:=cells4 hS9.2;go_simp;try with_reducible rfl
   simp only [Act.put,List.setIfInBounds_toArray,List.set_cons_zero,List.set_cons_succ]
  refine ysN ?_;refine rd1 6 (by kernel_rfl) rfl (fun K9 hK9=>?_);go_simp;refine (HRS.out _ (Below.refl _ wc).drew).mono ?_;rintro e w3 ⟨rfl,hwl,hk3⟩;have hne:¬P.e=P.l:=fun e=>HNE.out (Or.inr (Or.inl e))
  have hll:=heap_lt hwl.hd;have hlw:P.l<w.heap.size:=HLT.out P.l (Or.inl (Or.inr (Or.inl rfl)));have hs1:EgH w3 P m.wv:=hk3.blk hHeld.1 hne;have hs2:=hk3.blk hHeld.2 (fun e=>by have h9:A=P.l:=e;omega);have hq3:=hk3.blk HQ2.out (fun e=>by have h9:w.heap.size=P.l:=e;omega);have hkd:Kp (fun x=>x=P.l) wc w3:=(Kp.of_new (Below.refl _ wc).drew).trans hk3;have hdev:Eg w3 P (saveE P.z P.k S) ⟨F',.slice none 0 0,m.Fb,m.wv,c'⟩ (t+1)∧Step (EF P m) (EF P ⟨F',.slice none 0 0,m.Fb,m.wv,c'⟩) w w3:=by
   have hap:∀x,F' x→ ¬x=P.l:=fun x hx e=>by
    rcases HST2.out.sub x hx with e2 | e2
    ·exact (HAW.out x e2).1 (Or.inl e)
    ·omega
   refine HH.out.dev (S':=saveE P.z P.k S) (m':=⟨F',.slice none 0 0,m.Fb,m.wv,c'⟩) (Nat.le_succ _) rfl rfl rfl rfl ⟨?_,?_,?_⟩ (HPW.out.stay hkd hap) (by show Wl w3 P.l P.rl P.p P.z _ _ ⟨0,S.L.last,S.L.last,SlotPlain.gen S.oa S.ob+1,[]⟩ _;rw [HGE.out];exact hwl) ?_ (HSP.out c' HCB.out)
   ·exact (HST2.out.kp.mono (fun x hx=>Or.inl hx)).trans (hkd.mono (fun x hx=>Or.inr (Or.inl hx)))
   ·intro x hx;rcases hx with e | e | e
    ·rcases HST2.out.sub x e with e2 | e2
     ·exact Or.inl (Or.inl e2)
     ·exact Or.inr e2
    ·exact Or.inl (Or.inr (Or.inl e))
    ·cases e
   ·intro x hx;rcases hx with e | e | e
    ·have:=HST2.out.lt x e;have:=hkd.size;omega
    ·rw [e];exact hll
    ·cases e
   ·intro x hx;refine ⟨fun e=>?_,fun e=>?_⟩
    ·rcases e with e | e
     ·exact hap x hx e
     ·cases e
    ·rcases HST2.out.sub x hx with e2 | e2
     ·exact (HAW.out x e2).2 e
     ·have:=heap_lt HH.out.dv.wl.rg;omega
  have HDEV:=hid hdev;go_simp;refine hK9.out _ _ (⟨hs1,hs2⟩) (fun hHeld=>?_);clear hK9 K9;clear hs1 hs2 hdev hkd hwl hk3;refine wpAnyH_done (by kernel_rfl) ?_ _;obtain ⟨q0,_,q1,_,q2,_,q3,_,q4,_⟩:=cells5 hq3;have HC1:=hid (HCN.out m.wv S.ws w3 HDEV.out.1.en.hd HDEV.out.1.en.ws HDEV.out.1.en.we (by have:=HPL.out.lw;have:=HPL.out.tb;omega));clear hq3 hA hH2;go_wp2_with fail;refine HC1.out.mono ?_;rintro e w4 ⟨v2,rfl,ho,hd,hk⟩;have hnw:=HDEV.out.1.nows hk hd;have HNW:=hid hnw;have HO:=hid ho;clear hnw ho hd hk;go_wp2_with fail;go_ret;exact ⟨_,rfl,_,own_inc HO.out (by simp),HNW.out.1,HDEV.out.2.trans HNW.out.2⟩
theorem fld2 (a b c:Int)(w:World):(Instr.field 23 (.agg #[.int .i64 a,.int .i64 b,.int .i64 c]) 2).run Tryz.prog w = .ok (.int .i64 c) w:=by kernel_rfl
theorem below_of_drewN {w w':World}{n:Nat}(h:w'=w.drewN n):Below w.heap.size w w':=by rw [h];exact below_drewN (Below.refl _ _) _
def withL (S:Egs)(L:Lg):Egs:=⟨S.b,L,S.ws,S.D,S.oa,S.ob⟩
def withB (S:Egs)(b:Bk):Egs:=⟨b,S.L,S.ws,S.D,S.oa,S.ob⟩
def withW (S:Egs)(ws:List Rp):Egs:=⟨S.b,S.L,ws,S.D,S.oa,S.ob⟩
theorem own_one {w:World}{v:Value}{r:Rp}(h:w.ownsRow 0 50 7 v 1 (rpL r)):w.ownsRow 0 50 7 v [r].length ([r].flatMap rpL):=by simpa using h
theorem Eg.app {w w':World}{P:Ep}{S:Egs}{m:Em}{t:Nat}{x:List Nat}{v:Value}(h:Eg w P S m t)(ht:t+1≤400)(wl:Wl w' P.l P.rl P.p P.z (2*P.k) (P.n-2*P.k) (appended S.L x) v)(hs:Step (Wf P.l m.v) (Wf P.l v) w w'):
 Eg w' P (withL S (appended S.L x)) ⟨m.F,v,m.Fb,m.wv,m.c⟩ (t+1)∧Step (EF P m) (EF P ⟨m.F,v,m.Fb,m.wv,m.c⟩) w w':=by
 have l:=h.lt;have haw:∀y,m.F y→ ¬Wf P.l m.v y:=fun y hy=>(h.dv.aw y hy).1
 refine h.dev (S':=withL S (appended S.L x)) (m':=⟨m.F,v,m.Fb,m.wv,m.c⟩) (t':=t+1) (Nat.le_succ _) rfl rfl rfl rfl ⟨hs.kp.mono (fun y hy=>Or.inr hy),?_,?_⟩ (h.dv.pw.stay hs.kp haw) wl ?_ ?_
 ·intro y hy;rcases hy with e | e
  ·exact Or.inl (Or.inl e)
  ·rcases hs.sub y e with e2 | e2
   ·exact Or.inl (Or.inr e2)
   ·exact Or.inr e2
 ·intro y hy;rcases hy with e | e
  ·have:=h.dv.pw.flt y e;have:=hs.kp.size;omega
  ·exact hs.lt y e
 ·intro y hy;refine ⟨fun e=>?_,(h.dv.aw y hy).2⟩;rcases hs.sub y e with e2 | e2
  ·exact haw y hy e2
  ·have:=h.dv.pw.flt y hy;omega
 ·have hp:=h.pl;exact ⟨hp.so,hp.sl.mono (by omega) (by omega),hp.k2,hp.kn,hp.fi,Nat.le_succ_of_le hp.lw,hp.ok,by have:=hp.cb;show m.c≤_;omega,by have:=hp.lb;show S.L.last+1≤_;omega,ht⟩
theorem Sound.img {b b':Bk}(hs:b'.s=b.s∧b'.c=b.c∧b'.g=b.g){o:Option SlotPlain.Sl}{G C:Nat}(h:Img b.s b.c b.g o G C):Img b'.s b'.c b'.g o G C:=by rw [hs.1,hs.2.1,hs.2.2];exact h
theorem Eg.applied {w w':World}{P:Ep}{S:Egs}{m:Em}{t:Nat}{b':Bk}{F':Nat→Prop}(h:Eg w P S m t)(ht:t+1≤400)(hb:Sound b')(hs:b'.s=S.b.s∧b'.c=S.b.c∧b'.g=S.b.g)(bk:Bkk w' P.pb F' (2400+2*(t+1)) b')(st:Step m.Fb F' w w'):
 Eg w' P (withB S b') ⟨m.F,m.v,F',m.wv,m.c⟩ (t+1)∧Step (EF P m) (EF P ⟨m.F,m.v,F',m.wv,m.c⟩) w w':=by
 have hp:=h.pl;have hsl:=hp.sl;refine h.book (S':=withB S b') (m':=⟨m.F,m.v,F',m.wv,m.c⟩) (t':=t+1) rfl rfl rfl rfl rfl rfl rfl st bk ⟨hb,⟨hsl.sa,hsl.sb,(Sound.img hs hsl.ia).mono (by omega) (by omega),(Sound.img hs hsl.ib).mono (by omega) (by omega)⟩,hp.k2,hp.kn,?_,Nat.le_succ_of_le hp.lw,hp.ok,by have:=hp.cb;show m.c≤_;omega,by have:=hp.lb;show S.L.last≤_;omega,ht⟩;show 20+14*min b'.s b'.c≤_
 rw [hs.1,hs.2.1];exact hp.fi
theorem Eg.waits {w w':World}{P:Ep}{S:Egs}{m:Em}{t:Nat}{r:Rp}{wv:Value}(h:Eg w P S m t)(ht:S.ws.length+1≤t)(hr:OkRp r)(hd:EgH w' P wv)(ws:w'.ownsRow 0 50 7 wv (S.ws.length+1) (S.ws.flatMap rpL++rpL r))(hk:Kp (Ge P m) w w')(hn:∀x,wv.ownBlock=some x→m.wv.ownBlock=some x∨w.heap.size≤x):
 Eg w' P (withW S (S.ws++[r])) ⟨m.F,m.v,m.Fb,wv,m.c⟩ t∧Step (EF P m) (EF P ⟨m.F,m.v,m.Fb,wv,m.c⟩) w w':=by
 have l:=h.lt;have hp:=h.pl;have hel:=heap_lt h.en.hd;refine h.eng (S':=withW S (S.ws++[r])) (m':=⟨m.F,m.v,m.Fb,wv,m.c⟩) (t':=t) (Nat.le_refl _) rfl rfl rfl rfl rfl rfl rfl ⟨hk,?_,?_⟩ hd ?_ ?_ ⟨hp.so,hp.sl,hp.k2,hp.kn,hp.fi,?_,?_,hp.cb,hp.lb,hp.tb⟩
 ·intro x hx;rcases hx with e | e
  ·exact Or.inl (Or.inl e)
  ·rcases hn x e with e2 | e2
   ·exact Or.inl (Or.inr e2)
   ·exact Or.inr e2
 ·intro x hx;rcases hx with e | e
  ·rw [e];have:=hk.size;omega
  ·exact (ws.lt x e).2
 ·show w'.ownsRow 0 50 7 wv (S.ws++[r]).length ((S.ws++[r]).flatMap rpL)
  rw [List.length_append,List.flatMap_append];simpa using ws
 ·intro e;rcases hn P.e e with e2 | e2
  ·exact h.en.we e2
  ·omega
 ·show (S.ws++[r]).length ≤_
  rw [List.length_append];simp;omega
 ·intro y hy;rcases List.mem_append.1 hy with e | e
  ·exact hp.ok y e
  ·rw [List.mem_singleton.1 e];exact hr
end
end Go.Proofs.YtdjiopacieadpaaGreatDoor
