/- TopNear: part Pbp: TpA TpB ReqP TpC TpD TpE TpF. -/
import Derived.Test.YtdjiopacieadpaaGreatDoorPbo
set_option linter.unusedVariables false
set_option linter.unusedSimpArgs false
set_option maxRecDepth 8000
set_option maxHeartbeats 8000000
namespace Go.Proofs.YtdjiopacieadpaaGreatDoor
section
open Go.RowKit BookPlain FlatPlain
def styC (n z s c g:Int)(oa:Option Addr)(ln cp:Nat):Array Value:=#[.int .i64 n,.int .i64 z,.int .i64 s,.int .i64 c,.int .i64 g,.slice oa ln cp]
theorem disknew_bad (n z:Int)(w:World)(h:n<1∨(1≤n∧n≤96∧sizedB z=false)):Calls Tryz.prog 42 #[.int .i64 n,.int .i64 z] w fun e w'=>e = .returned (.tuple #[.pointer none,.int .i64 2])∧w=w':=by
 have HM:=hid (may_no n z w h);clear h;go_enter Tryz.func42,Tryz.ntmps42;go_wp2_with fail;refine HM.out.mono ?_;rintro e w1 ⟨rfl,rfl⟩;go_wp2_with fail;go_ret2;exact ⟨rfl,rfl⟩
def zeroD (n z:Nat):List Nat:=(List.replicate n (List.replicate z 0)).flatten
theorem device_ok (n z:Nat)(s c g:Int)(oa:Option Addr)(ln cp:Nat)(w:World)(h0:1≤n)(h1:n≤96)(hz:sizedB z=true):Calls Tryz.prog 15 #[.agg (styC n z s c g oa ln cp)] w fun e w'=> ∃p F,e = .returned (.tuple #[.pointer (some ⟨p,0,none⟩),.bool true])∧Pw w' p z n (zeroD n z) F 0 0∧(∀x,F x→w.heap.size≤x)∧Below w.heap.size w w':=by
 unfold styC;have N:=new1 w (.cells #[.int .i64 n,.int .i64 z,.int .i64 s,.int .i64 c,.int .i64 g,.slice oa ln cp] 26);obtain ⟨W0,hW0⟩:∃W,w.alloc (.cells #[.int .i64 n,.int .i64 z,.int .i64 s,.int .i64 c,.int .i64 g,.slice oa ln cp] 26)=W:=⟨_,rfl⟩;rw [hW0] at N;have HDN:=hid (disknew_any n z W0 h0 h1 hz);have HN:=hid N;have HH:=hid (And.intro h0 h1);obtain ⟨a0,_,a1,_,a2,_,a3,_,a4,_,a5,_⟩:=cells6 N.1;clear N h0 h1 hz;go_enter Tryz.func15,Tryz.ntmps15;go_wp2_with fail;refine HDN.out.mono ?_;rintro e w1 ⟨d,F,rfl,hdk,hF,hb1⟩;have HNW:=hid (dvnew_any d z _ F w1 hdk (by show 0<(List.replicate n (List.replicate z 0)).length;rw [List.length_replicate];have:=HH.out;omega));have HB1:=hid (HN.out.2.2.trans (hb1.mono HN.out.2.2.size));have HF:=hid hF;clear a0 a1 a2 a3 a4 a5 hdk hF hb1;go_wp2_with fail;refine HNW.out.mono ?_;rintro e w2 ⟨rfl,hb2,hdv⟩;have HDV:=hid hdv;have HB2:=hid (HB1.out.trans (hb2.mono HB1.out.size));clear hdv hb2;go_wp2_with fail;go_ret2;have h9:=HB1.out.size;have hs:=HN.out.2.1;refine ⟨w1.heap.size,_,rfl,⟨⟨_,HDV.out,by show (List.replicate n (List.replicate z 0)).length = n;rw [List.length_replicate],rfl,Nat.zero_le _⟩,HH.out.2⟩,fun x hx=>?_,HB2.out⟩;rcases hx with e | e
 ·have:=HF.out x e;omega
 ·omega
theorem device_bad (n z s c g:Int)(oa:Option Addr)(ln cp:Nat)(w:World)(h:n<1∨(1≤n∧n≤96∧sizedB z=false)):Calls Tryz.prog 15 #[.agg (styC n z s c g oa ln cp)] w fun e w'=>e = .returned (.tuple #[.pointer none,.bool false])∧Below w.heap.size w w':=by
 unfold styC;have N:=new1 w (.cells #[.int .i64 n,.int .i64 z,.int .i64 s,.int .i64 c,.int .i64 g,.slice oa ln cp] 26);obtain ⟨W0,hW0⟩:∃W,w.alloc (.cells #[.int .i64 n,.int .i64 z,.int .i64 s,.int .i64 c,.int .i64 g,.slice oa ln cp] 26)=W:=⟨_,rfl⟩;rw [hW0] at N;have HDN:=hid (disknew_bad n z W0 h);have HN:=hid N;obtain ⟨a0,_,a1,_,a2,_,a3,_,a4,_,a5,_⟩:=cells6 N.1;clear N h;go_enter Tryz.func15,Tryz.ntmps15;go_wp2_with fail;refine HDN.out.mono ?_;rintro e w1 ⟨rfl,rfl⟩;go_wp2_with fail;go_ret2;exact ⟨rfl,HN.out.2.2⟩
theorem zeroD_rep (n z:Nat):zeroD n z=List.replicate (n*z) 0:=by
 unfold zeroD;induction n with
 | zero=>simp
 | succ n ih=>rw [List.replicate_succ,List.flatten_cons,ih,List.replicate_append_replicate];congr 1;rw [Nat.add_mul];omega
theorem zero_slot (n z f k:Nat):SlotIs (zeroD n z) z f k none:=by
 show hdOf _ _=none
 unfold hdOf;rw [if_neg];rintro ⟨h,_⟩;have h4:=h.1;rw [zeroD_rep] at h4;unfold cut at h4;rw [List.drop_replicate,List.take_replicate,List.take_replicate] at h4;have:71∈List.replicate (min 4 (min z (n*z-f*z))) 0:=by rw [h4];decide
 have:=List.eq_of_mem_replicate this;omega
theorem zero_dsk (n z k s c g G C:Nat):Dsk (zeroD n z) z k s c g none none G C:=⟨zero_slot n z 0 k,zero_slot n z k k,fun x h=>(by cases h),fun x h=>(by cases h)⟩
def eg0 (z n k s c g:Nat):Egs:=openE z k (rcB z n k 0 0 (newB s c g) (zeroD n z)) (0+rcM z n k 0 0 (newB s c g) (zeroD n z)) (zeroD n z) none none
def OpdA (w:World)(n z k s c g:Nat)(e:Ending)(w':World):Prop:= ∃P m,e = .returned (.tuple #[.pointer (some ⟨P.p,0,none⟩),.pointer (some ⟨P.e,0,none⟩),.bool true,.bool true])∧P.z=z∧P.n=n∧P.k=k∧Eg w' P (eg0 z n k s c g) m 0∧(∀x,EF P m x→w.heap.size≤x)∧Below w.heap.size w w'
theorem opened_ok (n z k s c g:Nat)(oa:Option Addr)(ln cp:Nat)(w:World)(h:Opn 0 z n k s c g)(hgl:Glb w):Calls Tryz.prog 6 #[.agg (styC n z s c g oa ln cp)] w (OpdA w n z k s c g):=by
 have hkk:=slotN_two h.s1.1 h.c1.1 h.zz.1 (by have:=h.zz.2;omega);rw [h.kk] at hkk;have hkn:=h.kn;have hn1:1≤n:=by omega
 have HPL:=hid (fun W'=>plan_ok s c g z n k W' h.s1.1 (by have:=h.s1.2;omega) h.c1.1 (by have:=h.c1.2;omega) h.g1.1 h.g1.2 h.sz h.nn h.kk h.kn);have HDV:=hid (fun W'=>device_ok n z s c g oa ln cp W' hn1 h.nn h.sz);unfold styC at HDV ⊢;have N:=new1 w (.cells #[.int .i64 n,.int .i64 z,.int .i64 s,.int .i64 c,.int .i64 g,.slice oa ln cp] 26);obtain ⟨W0,hW0⟩:∃W,w.alloc (.cells #[.int .i64 n,.int .i64 z,.int .i64 s,.int .i64 c,.int .i64 g,.slice oa ln cp] 26)=W:=⟨_,rfl⟩;rw [hW0] at N;have HN:=hid N;have HGL:=hid hgl;have HO:=hid h;obtain ⟨L6,hL6⟩:∃L:Int×Int,L=(((2*k:Nat):Int),((n-2*k:Nat):Int)):=⟨_,rfl⟩;obtain ⟨l6,l7⟩:=L6;injection hL6 with e6 e7;rw [←e6,←e7] at HPL;obtain ⟨a0,_,a1,_,a2,_,a3,_,a4,_,a5,_⟩:=cells6 N.1;clear N h hgl hkk hkn hn1 e6 e7;go_enter Tryz.func6,Tryz.ntmps6;go_wp2_with fail;refine (HPL.out _).mono ?_;rintro e w1 ⟨rfl,hb1⟩;have N2:=new1 w1 (.cells #[.int .i64 z,.int .i64 0,.int .i64 k,.int .i64 k,.int .i64 k,.int .i64 l6,.int .i64 l7] 56);obtain ⟨W2,hW2⟩:∃W,w1.alloc (.cells #[.int .i64 z,.int .i64 0,.int .i64 k,.int .i64 k,.int .i64 k,.int .i64 l6,.int .i64 l7] 56)=W:=⟨_,rfl⟩;rw [hW2] at N2;have hb2:=HN.out.2.2.trans ((hb1.trans (N2.2.2.mono hb1.size)).mono HN.out.2.2.size);have hr2:=Bl.blk N2.2.2 (Bl.blk hb1 HN.out.1);have HB2:=hid hb2;have HR2:=hid hr2;clear a0 a1 a2 a3 a4 a5 N2 hb1 hb2;obtain ⟨a0,_,a1,_,a2,_,a3,_,a4,_,a5,_⟩:=cells6 hr2;clear hr2;go_wp2_with fail;refine (HDV.out _).mono ?_;rintro e w3 ⟨p,F,rfl,hpw,hF,hb3⟩;have hb3w:=HB2.out.trans (hb3.mono HB2.out.size);have hgl3:=HGL.out.new hb3w;obtain ⟨g0,c0,b0,hbk,hsb,hsh,hg0,hc0,hop⟩:=ropen_ok p z n k (zeroD n z) F 0 0 s c g none none w3 ⟨HO.out.s1,HO.out.c1,HO.out.g1,HO.out.sz,HO.out.zz,HO.out.nn,HO.out.kk,HO.out.kn⟩ hpw (zero_dsk n z k s c g _ _) (by omega) (by omega) hgl3 (fun x hx=>by have:=hF x hx;have:=HGL.out.size;have:=HB2.out.size;omega);have hb0:b0=newB s c g:=by
  rcases hbk with ⟨_,_,_,e⟩ | ⟨i,x,e,_⟩
  ·exact e
  ·cases e
 have hg00:g0=0:=hg0;have hc00:c0=0:=hc0;subst hb0 hg00 hc00;have HOP:=hid hop;have HB3:=hid hb3w;have HFF:=hid hF;have hr3:=Bl.blk hb3 HR2.out;clear a0 a1 a2 a3 a4 a5;obtain ⟨a0,_,a1,_,a2,_,a3,_,a4,_,a5,_⟩:=cells6 hr3;clear hop hpw hF hb3 hb3w hgl3 hbk hsb hsh hg0 hc0 hr3;go_wp2_with fail;refine HOP.out.mono ?_;rintro e w4 ⟨P,m,rfl,rfl,rfl,rfl,rfl,hE,hst,hcb⟩;have N4:=new1 w4 (.cells #[.int .u64 ((0:Nat):Int),.int .u64 ((0:Nat):Int),.int .i64 (rcM P.z P.n P.k 0 0 (newB s c g) (zeroD P.n P.z):Int)] 41);have HE4:=hid (hE.new N4.2.2);have hrd:(w4.alloc (.cells #[.int .u64 ((0:Nat):Int),.int .u64 ((0:Nat):Int),.int .i64 (rcM P.z P.n P.k 0 0 (newB s c g) (zeroD P.n P.z):Int)] 41)).cell? ⟨P.e,1,none⟩=some (.bool true):=(blk (hE.new N4.2.2).en.hd).1 1;have HRD:=hid (eready_any P.e true _ hrd);have HB4:=hid (show (∀x,EF P m x→w.heap.size≤x)∧Below w.heap.size w _ from ⟨fun x hx=>by
  rcases hst.sub x hx with e | e
  ·have:=HFF.out x e;have:=HB2.out.size;omega
  ·have:=HB3.out.size;omega,(HB3.out.trans (hst.kp.below HB3.out.size (fun i hi=>by have:=HFF.out i hi;have:=HB2.out.size;omega))).trans (N4.2.2.mono (Nat.le_trans HB3.out.size hst.kp.size))⟩)
 clear hE hst hcb N4 hrd a0 a1 a2 a3 a4 a5;go_wp2_with fail;refine HRD.out.mono ?_;rintro e w5 ⟨rfl,rfl⟩;go_wp2_with fail;refine bodyPost_ret (results_tmp4 rfl _ _ _) rfl ?_;exact ⟨P,m,rfl,rfl,rfl,rfl,HE4.out,HB4.out.1,HB4.out.2⟩
def OpdB (w:World)(e:Ending)(w':World):Prop:= ∃v1 v2,e = .returned (.tuple #[v1,v2,.bool false,.bool true])∧Below w.heap.size w w'
theorem opened_bad1 (n z s c g:Int)(oa:Option Addr)(ln cp:Nat)(w:World)(h:n<1∨(1≤n∧n≤96∧sizedB z=false))(HPL:Hid (∀W',Calls Tryz.prog 14 #[.int .i64 n,.int .i64 z,.agg #[.int .i64 s,.int .i64 c,.int .i64 g]] W' (PlanBad W'))):Calls Tryz.prog 6 #[.agg (styC n z s c g oa ln cp)] w (OpdB w):=by
 have HDV:=hid (fun W'=>device_bad n z s c g oa ln cp W' h);unfold styC at HDV ⊢;have N:=new1 w (.cells #[.int .i64 n,.int .i64 z,.int .i64 s,.int .i64 c,.int .i64 g,.slice oa ln cp] 26);obtain ⟨W0,hW0⟩:∃W,w.alloc (.cells #[.int .i64 n,.int .i64 z,.int .i64 s,.int .i64 c,.int .i64 g,.slice oa ln cp] 26)=W:=⟨_,rfl⟩;rw [hW0] at N;have HN:=hid N;obtain ⟨a0,_,a1,_,a2,_,a3,_,a4,_,a5,_⟩:=cells6 N.1;clear N h;go_enter Tryz.func6,Tryz.ntmps6;go_wp2_with fail;refine (HPL.out _).mono ?_;rintro e w1 ⟨L,f,rfl,hf,rfl,hb1⟩;have hfb:(f != 0)=true:=by simp [hf]
 have N2:=new1 w1 (.cells #[.int .i64 0,.int .i64 0,.int .i64 0,.int .i64 0,.int .i64 0,.int .i64 0,.int .i64 0] 56);have hb2:=HN.out.2.2.trans ((hb1.trans (N2.2.2.mono hb1.size)).mono HN.out.2.2.size);have hr1:=Bl.blk hb1 HN.out.1;have HB2:=hid hb2;have hr2:=Bl.blk N2.2.2 hr1;clear a0 a1 a2 a3 a4 a5 N2 hb2 hf;obtain ⟨a0,_,a1,_,a2,_,a3,_,a4,_,a5,_⟩:=cells6 hr1;obtain ⟨d0,_,d1,_,d2,_,d3,_,d4,_,d5,_⟩:=cells6 hr2;clear hr1 hb1 hr2;go_wp2_with fail;refine (HDV.out _).mono ?_;rintro e w3 ⟨rfl,hb3⟩;have HB3:=hid (HB2.out.trans (hb3.mono HB2.out.size));clear a0 a1 a2 a3 a4 a5 hb3;go_wp2_with fail;refine bodyPost_ret (results_tmp4 rfl _ _ _) rfl ?_;exact ⟨_,_,rfl,HB3.out⟩
end
section
open Go.RowKit BookPlain
def fldB (q:Rq)(f:Nat):List Nat:=if f=0 then le q.id 4 else if f=1 then le q.seat 2 else le q.ttl 8
def rqF (q:Rq):List Nat:=le q.k 1++le q.tag 4++(fsF q.k).flatMap (fldB q)
def rqN (q:Rq)(j:Nat):List Nat:=le q.k 1++le q.tag 4++((fsF q.k).take j).flatMap (fldB q)
theorem rqN_succ {q:Rq}{j f:Nat}(h:(fsF q.k)[j]?=some f):rqN q (j+1)=rqN q j++fldB q f:=by
 unfold rqN;rw [List.take_add_one,h];simp [List.flatMap_append]
theorem fldB_len (q:Rq)(f:Nat):(fldB q f).length ≤8:=by
 unfold fldB;split
 ·rw [le_len];omega
 split
 ·rw [le_len];omega
 ·rw [le_len];omega
theorem rqN_len (q:Rq)(j:Nat):(rqN q j).length ≤100:=by
 have hf:∀l:List Nat,(l.flatMap (fldB q)).length ≤8*l.length:=by
  intro l;induction l with
  | nil=>simp
  | cons x l ih=>rw [List.flatMap_cons,List.length_append,List.length_cons];have:=fldB_len q x;omega
 have h2:((fsF q.k).take j).length ≤2:=by
  have:=fsF_len q.k;rw [List.length_take];omega
 have:=hf ((fsF q.k).take j);unfold rqN;rw [List.length_append,List.length_append,le_len,le_len];omega
structure RqpI (w:World)(P0 F:Nat)(hv:Value)(q:Rq)(j:Nat)(wi:World):Prop where
 req:wi.heap[w.heap.size]?=some (.cells #[.int .i64 q.k,.int .u32 q.tag,.int .u32 q.id,.int .i64 q.seat,.int .i64 q.ttl] 48 (0,0))
 wr:Wr wi P0 (rqN q j)
 fld:wi.heap[F]?=some (.cells fldC 123 (0,0))
 has:Sl wi hv (Lq (fsF q.k))
 bel:Below w.heap.size w wi
theorem RqpI.next {w:World}{P0 F:Nat}{hv:Value}{q:Rq}{j f:Nat}{wi wj:World}(h:RqpI w P0 F hv q j wi)(hk:Kp (· = P0) wi wj)(hge:w.heap.size<P0∧P0<F)(hf:(fsF q.k)[j]?=some f)(ho:∀b,hv.ownBlock=some b→b≠P0)(hw:Wr wj P0 (rqN q j++fldB q f)):RqpI w P0 F hv q (j+1) wj:=
 ⟨hk.blk h.req (by omega),by rw [rqN_succ hf];exact hw,hk.blk h.fld (by omega),Sl_kp h.has hk (fun x hx e=>ho x hx e),h.bel.trans (hk.below h.bel.size (fun i hi=>by have:i=P0:=hi;omega))⟩
theorem RqpI.new {w:World}{P0 F:Nat}{hv:Value}{q:Rq}{j:Nat}{wi wj:World}(h:RqpI w P0 F hv q j wi)(hb:Below wi.heap.size wi wj):RqpI w P0 F hv q j wj:=
 ⟨Bl.blk hb h.req,h.wr.below hb (Nat.le_refl _),Bl.blk hb h.fld,Sl_below h.has hb (Nat.le_refl _),h.bel.trans (hb.mono h.bel.size)⟩
theorem reqput_any (q:Rq)(hq:OkRq q)(w:World):Calls Tryz.prog 29 #[.agg (rqC q.k q.tag q.id q.seat q.ttl)] w fun e w'=> ∃v,e = .returned (.tuple #[v,.int .i64 0])∧w'.ownsRow w.heap.size 5 1 v (rqF q).length (Lb (rqF q))∧Below w.heap.size w w':=by
 have HQ:=hid hq;have HCK:=hid (fun W'=>reqcheck_any q hq W');have WK:IntKind.u8.wrap (q.k:Int)=(q.k:Int):=by have:=hq.k;rw [IntKind.wrap_u8];omega
 clear hq;unfold rqC at *;go_enter Tryz.func29,Tryz.ntmps29;go_wp2_with fail;refine at_new1 ?_;intro w0 p0 ns nb;refine (HCK.out _).mono ?_;rintro e w1 ⟨rfl,hb⟩;have h1:=Bl.blk hb p0;have hbn:=Bl.trans nb hb;have hs1:w.heap.size<w1.heap.size:=heap_lt h1;obtain ⟨q0,_,q1,_,q2,_,q3,_,q4,_⟩:=cells5 h1;have HR0:=hid h1;have HB:=hid hbn;clear p0 ns nb hb h1 hbn;go_wp2_with fail;refine at_new1 ?_;intro w2 s0 ns nb;obtain ⟨P0,hP⟩:∃P,w1.heap.size=P:=⟨_,rfl⟩;have HW:Hid (Wr w2 P0 []):=hid ⟨_,by rw [←hP];exact s0,World.ownsRow_nil _ _ _ _⟩;have h1:=Bl.blk nb HR0.out;have hbn:=HB.out.trans (nb.mono (by omega));rw [hP] at hs1 ns ⊢;clear HR0 HB q0 q1 q2 q3 q4;obtain ⟨q0,_,q1,_,q2,_,q3,_,q4,_⟩:=cells5 h1;have HR0:=hid h1;have HB:=hid hbn;clear s0 nb h1 hbn;refine (byte_any P0 _ q.k _ HW.out (by have:=HQ.out.k;omega) (by simp)).mono ?_;rintro e w3 ⟨rfl,hW,hK⟩;have h1:=hK.blk HR0.out (by omega);have hbn:=HB.out.trans (hK.below (B:=w.heap.size) (by omega) (fun i hi=>by omega));have hsz:=hK.size;clear HR0 HB q0 q1 q2 q3 q4 HW;obtain ⟨q0,_,q1,_,q2,_,q3,_,q4,_⟩:=cells5 h1;have HR0:=hid h1;have HB:=hid hbn;have HW:=hid hW;have hsP:P0<w3.heap.size:=by omega
 clear h1 hbn hW hK hsz ns;go_wp2_with fail;refine (four_any P0 _ q.tag _ HW.out HQ.out.tag (by simp [le_len])).mono ?_;rintro e w4 ⟨rfl,hW,hK⟩;have h1:=hK.blk HR0.out (by omega);have hbn:=HB.out.trans (hK.below (B:=w.heap.size) (by omega) (fun i hi=>by omega));have hsz:=hK.size;clear HR0 HB q0 q1 q2 q3 q4 HW;obtain ⟨q0,_,q1,_,q2,_,q3,_,q4,_⟩:=cells5 h1;have HR0:=hid h1;have HB:=hid hbn;have HW:=hid hW;have hsP:P0<w4.heap.size:=by omega
 clear h1 hbn hW hK hsz;go_wp2_with fail;refine (reqof_any q.k _).mono ?_;rintro e w5 ⟨hv5,rfl,hS5,hO5,hb⟩;have h1:=Bl.blk hb HR0.out;have hbn:=HB.out.trans (hb.mono (by omega));have hW:=HW.out.below hb (Nat.le_refl _);have hO:∀b,hv5.ownBlock=some b→P0<b∧b<w5.heap.size:=fun x hx=>⟨by have:=(hO5 x hx).1;omega,(hO5 x hx).2⟩
 obtain ⟨ha,hcc,rfl,_,_⟩:=Sl_len hS5;rw [Lq_len] at hS5 hO ⊢;have hsP5:P0<w5.heap.size:=by have:=hb.size;omega
 clear HR0 HB q0 q1 q2 q3 q4 HW;have HS:=hid hS5;have HO:=hid hO;have HR0:=hid h1;have HB:=hid hbn;have HW:=hid hW;clear h1 hbn hW hb hS5 hO5 hO;go_wp2_with fail;refine (fields_any _).mono ?_;rintro e w6 ⟨rfl,hb⟩;have h1:=Bl.blk hb HR0.out;have hbn:=HB.out.trans (hb.mono (by omega));have hW:=HW.out.below hb (Nat.le_refl _);have h6:=Sl_below HS.out hb (Nat.le_refl _);have hs6:P0<w6.heap.size∧w5.heap.size≤w6.heap.size:=by have:=hb.size;omega
 clear HR0 HB HW HS hsP hsP5;have HR0:=hid h1;have HB:=hid hbn;have HW:=hid hW;have HS:=hid h6;clear h1 hbn hW h6 hb;unfold fldC;go_wp2_with (first | (refine wpList_store_all rfl 123 _ _ rfl w6.heap.size 123 _ _ rfl rfl (new1 _ _).1 rfl (by kernel_rfl) (by simp [Value.oneCell']) ?_;intro w7 hb7 hs7 hk7;have HN7:=hid (new1 w6 (.cells #[.nilFunc,.nilFunc,.nilFunc,.nilFunc,.nilFunc,.nilFunc,.nilFunc,.nilFunc,.nilFunc] 123)).2.2;have HF7:=hid hb7;have HK7:=hid hk7;clear hb7 hk7));obtain ⟨F,hF⟩:∃F,w6.heap.size=F:=⟨_,rfl⟩;rw [hF] at HF7 HK7;have hPF:P0<F:=by omega
 have hI0:RqpI w P0 F (.slice ha (fsF q.k).length hcc) q 0 w7:=by
  have hn:=HN7.out;have hk7:=HK7.out;refine ⟨hk7.blk (Bl.blk hn HR0.out) (by omega),?_,HF7.out,Sl_kp (Sl_below HS.out hn (Nat.le_refl _)) hk7 (fun x hx e=>?_),(HB.out.trans (hn.mono (by omega))).trans (hk7.below (by have:=hn.size;omega) (fun i hi=>by omega))⟩
  ·have h0:rqN q 0=[]++le q.k 1++le q.tag 4:=by unfold rqN;simp
   rw [h0];obtain ⟨v9,g1,g2⟩:=HW.out;refine ⟨v9,hk7.blk (Bl.blk hn g1) (by omega),own_kp (own_below g2 hn (Nat.le_refl _)) hk7 (fun x hx e=>?_)⟩;have:=(g2.lt x hx).2;omega
  ·have:=(HO.out x hx).2;omega
 have HI0:=hid hI0;have HGE:=hid (show w.heap.size<P0∧P0<F from ⟨hs1,hPF⟩);have HNE:=hid (show ∀x,(Value.slice ha (fsF q.k).length hcc).ownBlock = some x→x≠P0 from fun x hx=>by have:=(HO.out x hx).1;omega);rw [hF];clear hI0 HR0 HB HW HS HN7 HF7 HK7 hs7 hs6 hF hs1 hPF;go_loopw [32] (fun i wi=> ∃j:Nat,j≤(fsF q.k).length ∧i = .int .i64 j∧RqpI w P0 F (.slice ha (fsF q.k).length hcc) q j wi) (fun i _=>(fsF q.k).length - (intOf i).toNat)
 case atStart=>exact ⟨0,by omega,rfl,HI0.out⟩
 case round=>
  obtain ⟨j,hj,rfl,hI⟩:=hrel;have HI:=hid hI;have hlen2:=fsF_len q.k;have HLL:=hid (rqN_len q j);have HID:=hid (hI.new (below_drewN (Below.refl _ wr) 1));clear hI HI0;by_cases hlt:j<(fsF q.k).length
  ·have hltI:(j:Int)<((fsF q.k).length : Int):=by omega
   obtain ⟨hb9,ho9,rfl,hlt9,hc9⟩:=Sl_cellQ HI.out.has hlt;have hfj:(fsF q.k)[j]?=some (fsF q.k)[j]:=List.getElem?_eq_getElem hlt;have hfle:=fsF_le q.k _ (List.getElem_mem hlt);generalize (fsF q.k)[j]=f at hc9 hfj hfle;have HFJ:=hid hfj;have hF3:f=0∨f=1∨f=2:=by omega
   obtain ⟨q0,_,q1,_,q2,_,q3,_,q4,_⟩:=cells5 HI.out.req;clear hfj hfle;rcases hF3 with hf | hf | hf
   ·subst hf;have hc:wr.cell? ⟨hb9,ho9+j,none⟩=some (.int .i64 0):=hc9;have hfn:wr.cell? ⟨F,0,none⟩=some (.func (.func 89) #[] #[]):=(blk HI.out.fld).1 0;clear hc9;go_wp2_with fail;refine wp_region_held_drew (S:=fun w'=>w'.cell? ⟨F,0,none⟩=some (.func (.func 89) #[] #[])∧w'.cell? ⟨w.heap.size,0,none⟩=some (.int .i64 q.k)∧w'.cell? ⟨w.heap.size,1,none⟩=some (.int .u32 q.tag)∧w'.cell? ⟨w.heap.size,2,none⟩=some (.int .u32 q.id)∧w'.cell? ⟨w.heap.size,3,none⟩=some (.int .i64 q.seat)∧w'.cell? ⟨w.heap.size,4,none⟩=some (.int .i64 q.ttl)) (by kernel_rfl) (⟨hfn,q0,q1,q2,q3,q4⟩) (fun hHeld=>?_);refine tkm 5 [(0,36),(1,37),(2,38),(3,39),(4,40)] (by kernel_rfl) (fun _ _ _ _ _ h=>h) (by assumption) ?_;iterate 5
     refine ysC (v:=?_) rfl rfl (fun w9 hS9=>?_) ?_;rotate_left
     ·try dsimp only at hS9
      go_split_ands;go_simp;try with_reducible rfl
     simp only [Act.put,List.setIfInBounds_toArray,List.set_cons_zero,List.set_cons_succ]
    refine ysN ?_;refine rd1 5 (by kernel_rfl) rfl (fun K9 hK9=>?_);go_simp;refine (putf0 P0 _ q.k q.tag q.id _ _ _ HID.out.wr HQ.out.id (by have:=HLL.out;omega)).mono ?_;rintro o w9 ⟨rfl,h1,h3⟩;have H9:=hid (HID.out.next h3 HGE.out HFJ.out HNE.out (by simpa [fldB] using h1));go_simp;refine hK9.out _ _ (by
     have g:=(blk H9.out.fld).1;have g2:=blk H9.out.req;exact ⟨g 0,g2.1 0,g2.1 1,g2.1 2,g2.1 3,g2.1 4⟩) (fun hHeld=>?_)
    clear hK9 K9 h1 h3;refine wpAnyH_done (by kernel_rfl) ?_ _;go_wp2_with fail;go_roundw;case rel=>exact ⟨j+1,by omega,by go_num,H9.out⟩
    case measure=>simp [intOf];omega
   ·subst hf;have hc:wr.cell? ⟨hb9,ho9+j,none⟩=some (.int .i64 1):=hc9;have hfn:wr.cell? ⟨F,3,none⟩=some (.func (.func 92) #[] #[]):=(blk HI.out.fld).1 3;clear hc9;go_wp2_with fail;refine wp_region_held_drew (S:=fun w'=>w'.cell? ⟨F,3,none⟩=some (.func (.func 92) #[] #[])∧w'.cell? ⟨w.heap.size,0,none⟩=some (.int .i64 q.k)∧w'.cell? ⟨w.heap.size,1,none⟩=some (.int .u32 q.tag)∧w'.cell? ⟨w.heap.size,2,none⟩=some (.int .u32 q.id)∧w'.cell? ⟨w.heap.size,3,none⟩=some (.int .i64 q.seat)∧w'.cell? ⟨w.heap.size,4,none⟩=some (.int .i64 q.ttl)) (by kernel_rfl) (⟨hfn,q0,q1,q2,q3,q4⟩) (fun hHeld=>?_);refine tkm 5 [(0,36),(1,37),(2,38),(3,39),(4,40)] (by kernel_rfl) (fun _ _ _ _ _ h=>h) (by assumption) ?_;iterate 5
     refine ysC (v:=?_) rfl rfl (fun w9 hS9=>?_) ?_;rotate_left
     ·try dsimp only at hS9
      go_split_ands;go_simp;try with_reducible rfl
     simp only [Act.put,List.setIfInBounds_toArray,List.set_cons_zero,List.set_cons_succ]
    refine ysN ?_;refine rd1 5 (by kernel_rfl) rfl (fun K9 hK9=>?_);go_simp;refine (putf1 P0 _ q.k q.tag q.seat _ _ _ HID.out.wr (by have:=HQ.out.seat;omega) (by have:=HLL.out;omega)).mono ?_;rintro o w9 ⟨rfl,h1,h3⟩;have H9:=hid (HID.out.next h3 HGE.out HFJ.out HNE.out (by simpa [fldB] using h1));go_simp;refine hK9.out _ _ (by
     have g:=(blk H9.out.fld).1;have g2:=blk H9.out.req;exact ⟨g 3,g2.1 0,g2.1 1,g2.1 2,g2.1 3,g2.1 4⟩) (fun hHeld=>?_)
    clear hK9 K9 h1 h3;refine wpAnyH_done (by kernel_rfl) ?_ _;go_wp2_with fail;go_roundw;case rel=>exact ⟨j+1,by omega,by go_num,H9.out⟩
    case measure=>simp [intOf];omega
   ·subst hf;have hc:wr.cell? ⟨hb9,ho9+j,none⟩=some (.int .i64 2):=hc9;have hfn:wr.cell? ⟨F,6,none⟩=some (.func (.func 95) #[] #[]):=(blk HI.out.fld).1 6;clear hc9;go_wp2_with fail;refine wp_region_held_drew (S:=fun w'=>w'.cell? ⟨F,6,none⟩=some (.func (.func 95) #[] #[])∧w'.cell? ⟨w.heap.size,0,none⟩=some (.int .i64 q.k)∧w'.cell? ⟨w.heap.size,1,none⟩=some (.int .u32 q.tag)∧w'.cell? ⟨w.heap.size,2,none⟩=some (.int .u32 q.id)∧w'.cell? ⟨w.heap.size,3,none⟩=some (.int .i64 q.seat)∧w'.cell? ⟨w.heap.size,4,none⟩=some (.int .i64 q.ttl)) (by kernel_rfl) (⟨hfn,q0,q1,q2,q3,q4⟩) (fun hHeld=>?_);refine tkm 5 [(0,36),(1,37),(2,38),(3,39),(4,40)] (by kernel_rfl) (fun _ _ _ _ _ h=>h) (by assumption) ?_;iterate 5
     refine ysC (v:=?_) rfl rfl (fun w9 hS9=>?_) ?_;rotate_left
     ·try dsimp only at hS9
      go_split_ands;go_simp;try with_reducible rfl
     simp only [Act.put,List.setIfInBounds_toArray,List.set_cons_zero,List.set_cons_succ]
    refine ysN ?_;refine rd1 5 (by kernel_rfl) rfl (fun K9 hK9=>?_);go_simp;refine (putf2 P0 _ q.k q.tag q.ttl _ _ _ HID.out.wr HQ.out.ttl (by have:=HLL.out;omega)).mono ?_;rintro o w9 ⟨rfl,h1,h3⟩;have H9:=hid (HID.out.next h3 HGE.out HFJ.out HNE.out (by simpa [fldB] using h1));go_simp;refine hK9.out _ _ (by
     have g:=(blk H9.out.fld).1;have g2:=blk H9.out.req;exact ⟨g 6,g2.1 0,g2.1 1,g2.1 2,g2.1 3,g2.1 4⟩) (fun hHeld=>?_)
    clear hK9 K9 h1 h3;refine wpAnyH_done (by kernel_rfl) ?_ _;go_wp2_with fail;go_roundw;case rel=>exact ⟨j+1,by omega,by go_num,H9.out⟩
    case measure=>simp [intOf];omega
  ·obtain rfl:j=(fsF q.k).length :=by omega
   have hE:rqN q (fsF q.k).length = rqF q:=by unfold rqN rqF;rw [List.take_length]
   have hW:=HI.out.wr;rw [hE] at hW;have HE:=hid hE;have HW:=hid hW;have HBL:=hid HI.out.bel;clear hW hE HI hlen2;go_wp2_with fail;refine (out_any P0 _ _ HW.out (by have:=HLL.out;rw [HE.out] at this;omega)).mono ?_;rintro e w9 ⟨v',rfl,ho,hb⟩;have HR:=hid (And.intro (own_mono ho HBL.out.size) (HBL.out.trans (hb.mono HBL.out.size)));clear ho hb;go_wp2_with fail;go_ret2;exact ⟨_,rfl,HR.out.1,HR.out.2⟩
end
section
open Go.RowKit BookPlain FlatPlain
theorem opened_bad2 (n z:Nat)(s c g:Int)(oa:Option Addr)(ln cp:Nat)(w:World)(h0:1≤n)(h1:n≤96)(hz:sizedB z=true)(HPL:Hid (∀W',Calls Tryz.prog 14 #[.int .i64 n,.int .i64 z,.agg #[.int .i64 s,.int .i64 c,.int .i64 g]] W' (PlanBad W'))):Calls Tryz.prog 6 #[.agg (styC n z s c g oa ln cp)] w (OpdB w):=by
 have HDV:=hid (fun W'=>device_ok n z s c g oa ln cp W' h0 h1 hz);unfold styC at HDV ⊢;have N:=new1 w (.cells #[.int .i64 n,.int .i64 z,.int .i64 s,.int .i64 c,.int .i64 g,.slice oa ln cp] 26);obtain ⟨W0,hW0⟩:∃W,w.alloc (.cells #[.int .i64 n,.int .i64 z,.int .i64 s,.int .i64 c,.int .i64 g,.slice oa ln cp] 26)=W:=⟨_,rfl⟩;rw [hW0] at N;have HN:=hid N;have HH:=hid h0;obtain ⟨a0,_,a1,_,a2,_,a3,_,a4,_,a5,_⟩:=cells6 N.1;clear N h0 h1 hz;go_enter Tryz.func6,Tryz.ntmps6;go_wp2_with fail;refine (HPL.out _).mono ?_;rintro e w1 ⟨L,f,rfl,hf,rfl,hb1⟩;have hfb:(f != 0)=true:=by simp [hf]
 have N2:=new1 w1 (.cells #[.int .i64 0,.int .i64 0,.int .i64 0,.int .i64 0,.int .i64 0,.int .i64 0,.int .i64 0] 56);have hb2:=HN.out.2.2.trans ((hb1.trans (N2.2.2.mono hb1.size)).mono HN.out.2.2.size);have hr1:=Bl.blk hb1 HN.out.1;have HB2:=hid hb2;have hr2:=Bl.blk N2.2.2 hr1;have HR2:=hid hr2;clear a0 a1 a2 a3 a4 a5 N2 hb2 hf;obtain ⟨a0,_,a1,_,a2,_,a3,_,a4,_,a5,_⟩:=cells6 hr1;obtain ⟨d0,_,d1,_,d2,_,d3,_,d4,_,d5,_⟩:=cells6 hr2;clear hr1 hb1 hr2;go_wp2_with fail;refine (HDV.out _).mono ?_;rintro e w3 ⟨p,F,rfl,hpw,hF,hb3⟩;have HOB:=hid (ropen_bad p z n (zeroD n z) F 0 0 s c g w3 HH.out hpw HPL);have hr3:=Bl.blk hb3 HR2.out;have HB3:=hid (HB2.out.trans (hb3.mono HB2.out.size));clear a0 a1 a2 a3 a4 a5 d0 d1 d2 d3 d4 d5 hb3 hpw hF;obtain ⟨a0,_,a1,_,a2,_,a3,_,a4,_,a5,_⟩:=cells6 hr3;clear hr3;go_wp2_with fail;refine HOB.out.mono ?_;rintro e w4 ⟨en,f2,rfl,hf2,hen,hb4⟩;have hfb2:(f2 != 0)=true:=by simp [hf2]
 have N4:=new1 w4 (.cells #[.int .u64 0,.int .u64 0,.int .i64 0] 41);have hrd:(w4.alloc (.cells #[.int .u64 0,.int .u64 0,.int .i64 0] 41)).cell? ⟨en,1,none⟩=some (.bool false):=(blk (Bl.blk N4.2.2 hen)).1 1;have HRD:=hid (eready_any en false _ hrd);have HB4:=hid ((HB3.out.trans (hb4.mono HB3.out.size)).trans (N4.2.2.mono (Nat.le_trans HB3.out.size hb4.size)));clear a0 a1 a2 a3 a4 a5 hf2 hen hb4 N4 hrd;go_wp2_with fail;refine HRD.out.mono ?_;rintro e w5 ⟨rfl,rfl⟩;go_wp2_with fail;refine bodyPost_ret (results_tmp4 rfl _ _ _) rfl ?_;exact ⟨_,_,rfl,HB4.out⟩
theorem ask_any (q:Rq)(hq:OkRq q)(w:World):Calls Tryz.prog 12 #[.agg (rqC q.k q.tag q.id q.seat q.ttl)] w fun e w'=> ∃v,e = .returned v∧w'.ownsRow w.heap.size 5 1 v (rqF q).length (Lb (rqF q))∧Below w.heap.size w w':=by
 have HRP:=hid (fun W'=>reqput_any q hq W');unfold rqC at HRP ⊢;have N:=new1 w (.cells #[.int .i64 q.k,.int .u32 q.tag,.int .u32 q.id,.int .i64 q.seat,.int .i64 q.ttl] 48);obtain ⟨W0,hW0⟩:∃W,w.alloc (.cells #[.int .i64 q.k,.int .u32 q.tag,.int .u32 q.id,.int .i64 q.seat,.int .i64 q.ttl] 48)=W:=⟨_,rfl⟩;rw [hW0] at N;have HN:=hid N;obtain ⟨q0,_,q1,_,q2,_,q3,_,q4,_⟩:=cells5 N.1;clear N;go_enter Tryz.func12,Tryz.ntmps12;go_wp2_with fail;refine (HRP.out _).mono ?_;rintro e w1 ⟨v,rfl,ho,hb⟩;have HR:=hid (And.intro (own_mono ho HN.out.2.2.size) (HN.out.2.2.trans (hb.mono HN.out.2.2.size)));clear ho hb;go_wp2_with fail;go_ret;exact ⟨_,rfl,HR.out.1,HR.out.2⟩
theorem copyb_any (v:Value)(l:List Nat)(w:World)(hv:Sl w v (Lb l))(hl:l.length≤10000000):
 Calls Tryz.prog 8 #[v] w fun e w'=> ∃v',e = .returned v'∧w'.ownsRow w.heap.size 5 1 v' l.length (Lb l)∧Below w.heap.size w w':=by
 obtain ⟨a,c,rfl,hc,hcm⟩:=Sl_partsB hv;obtain ⟨i0,hi,hz0,hz1,hz2⟩:=info_parts info5;have HI:=hid hi;have HZ:=hid hz2;have HV:=hid hv;clear hi hz2 hv;cases a with
 | none=>
  obtain ⟨e1,e2,e3⟩:=Sl_none HV.out;have hl0:l=[]:=List.eq_nil_of_length_eq_zero e2;subst hl0 e3;go_enter Tryz.func8,Tryz.ntmps8;go_wp2;go_ret;exact ⟨_,rfl,World.ownsRow_nil _ _ _ _,Below.refl _ _⟩
 | some a=>
  have HNW:=hid (Sl_news HV.out);have HLL:=hid (Lb_len l);go_enter Tryz.func8,Tryz.ntmps8;go_wp2_with (at_builtin;refine wpList_append_own _ rfl _ _ 34 rfl w.heap.size 5 i0 (.int .u8 0) 1 1 Tryz.underlying34 HI.out hz0 hz1 HZ.out rfl (by decide) _ 0 [] rfl (World.ownsRow_nil _ _ _ _) a l.length c (Lb l) rfl (by rw [HLL.out];omega) HNW.out (Lb_one l) (by unfold maxLen;omega) (by omega) (Nat.le_refl _) ?_;intro v4 w4 hown hgrow _);go_ret;refine ⟨_,rfl,by simpa using hown,(Below.refl _ _).grown hgrow (Nat.le_refl _) (fun k hk=>?_)⟩;exact absurd (show (none:Option Nat)=some k from hk) (by simp)
def Asks (w:World)(oa:Option Addr)(xs:List (List Nat)):Prop:= ∀(i:Nat) (x:List Nat),xs[i]?=some x→ ∃b off v,oa=some ⟨b,off,none⟩∧b<w.heap.size∧w.cell? ⟨b,off+i,none⟩=some v∧Sl w v (Lb x)∧Bs x
theorem Asks.below {w w':World}{oa:Option Addr}{xs:List (List Nat)}(h:Asks w oa xs)(hb:Below w.heap.size w w'):Asks w' oa xs:=by
 intro i x hi;obtain ⟨b,off,v,e,hlt,hc,hs,hx⟩:=h i x hi;exact ⟨b,off,v,e,Nat.lt_of_lt_of_le hlt hb.size,(hb.cell (p:=⟨b,off+i,none⟩) hlt).trans hc,Sl_below hs hb (Nat.le_refl _),hx⟩
def Byd (n z s c:Int)(xs:List (List Nat)):Prop:=n≤96∧z≤256∧s≤24∧c≤24∧xs.length≤80∧ ∀x∈xs,x.length≤8192
def BydR (w:World)(n z s c:Int)(xs:List (List Nat))(e:Ending)(w':World):Prop:= ∃b,e = .returned (.bool b)∧Below w.heap.size w w'∧(b=false→Byd n z s c xs)
theorem beyond_any (n z s c g:Int)(oa:Option Addr)(cp:Nat)(xs:List (List Nat))(w:World)(hx:Asks w oa xs)(hcp:xs.length≤cp)(hxl:∀x∈xs,x.length≤140737488351232):Calls Tryz.prog 4 #[.agg (styC n z s c g oa xs.length cp)] w (BydR w n z s c xs):=by
 unfold styC;have N:=new1 w (.cells #[.int .i64 n,.int .i64 z,.int .i64 s,.int .i64 c,.int .i64 g,.slice oa xs.length cp] 26);obtain ⟨W0,hW0⟩:∃W,w.alloc (.cells #[.int .i64 n,.int .i64 z,.int .i64 s,.int .i64 c,.int .i64 g,.slice oa xs.length cp] 26)=W:=⟨_,rfl⟩;rw [hW0] at N;have HN:=hid N;have HX:=hid (hx.below N.2.2);obtain ⟨a0,_,a1,_,a2,_,a3,_,a4,_,a5,_⟩:=cells6 N.1;clear N hx;by_cases h1:(96:Int)<n
 ·go_enter Tryz.func4,Tryz.ntmps4;go_wp2_with fail;go_ret;exact ⟨true,rfl,HN.out.2.2,fun e=>by cases e⟩
 by_cases h2:(256:Int)<z
 ·go_enter Tryz.func4,Tryz.ntmps4;go_wp2_with fail;go_ret;exact ⟨true,rfl,HN.out.2.2,fun e=>by cases e⟩
 by_cases h3:(24:Int)<s
 ·go_enter Tryz.func4,Tryz.ntmps4;go_wp2_with fail;go_ret;exact ⟨true,rfl,HN.out.2.2,fun e=>by cases e⟩
 by_cases h4:(24:Int)<c
 ·go_enter Tryz.func4,Tryz.ntmps4;go_wp2_with fail;go_ret;exact ⟨true,rfl,HN.out.2.2,fun e=>by cases e⟩
 by_cases h5:(80:Int)<(xs.length:Int)
 ·go_enter Tryz.func4,Tryz.ntmps4;go_wp2_with fail;go_ret;exact ⟨true,rfl,HN.out.2.2,fun e=>by cases e⟩
 go_enter Tryz.func4,Tryz.ntmps4;go_wp2_with fail;go_loopw [3,4] (fun tt i wr=> ∃m j:Nat,tt = .int .i64 m∧i = .int .i64 j∧j≤xs.length∧m≤8192∧(∀x∈xs.take j,x.length≤8192)∧wr=W0) (fun tt i wr=>xs.length-(intOf i).toNat)
 case atStart=>exact ⟨0,0,rfl,rfl,Nat.zero_le _,Nat.zero_le _,fun x hx=>by simp at hx,rfl⟩
 case round=>
  obtain ⟨m,j,rfl,rfl,hj,hm,hall,rfl⟩:=hrel;by_cases hlt:j<xs.length
  ·have hjI:(j:Int)<(xs.length:Int):=by omega
   obtain ⟨x,hxj⟩:∃x,xs[j]?=some x:=⟨_,List.getElem?_eq_getElem hlt⟩;obtain ⟨b,off,v,rfl,hb,hc,hs,hbs⟩:=HX.out j x hxj;obtain ⟨a,cc,rfl,hcc,hcm⟩:=Sl_partsB hs;have hlx:x.length≤140737488351232:=hxl x (List.mem_of_getElem? hxj);have htk:xs.take (j+1)=xs.take j++[x]:=by rw [List.take_add_one,hxj];rfl
   have HALL:=hid (And.intro hall htk);have HM:=hid (And.intro hcc hcm);clear hall htk hs hbs hxj hcc hcm;by_cases hbig:(8192:Int)<(m:Int)+(x.length:Int)
   ·go_wp2_with fail;go_ret;exact ⟨true,rfl,HN.out.2.2,fun e=>by cases e⟩
   ·go_wp2_with fail;go_roundw;case rel=>
     refine ⟨m+x.length,j+1,by go_num,by go_num,by omega,by omega,fun y hy=>?_,trivial⟩;rw [HALL.out.2] at hy;rcases List.mem_append.1 hy with e | e
     ·exact HALL.out.1 y e
     ·rw [List.mem_singleton.1 e];omega
    case measure=>simp [intOf];omega
  ·have hjI:¬(j:Int)<(xs.length:Int):=by omega
   have hje:j=xs.length:=by omega
   have HE:=hid hje;have HALL:=hid hall;clear hje hall;go_wp2_with fail;go_ret;refine ⟨false,rfl,HN.out.2.2,fun _=>⟨by omega,by omega,by omega,by omega,by omega,fun x hx=>HALL.out x ?_⟩⟩;rw [HE.out,List.take_length];exact hx
def q1:Rq:=⟨1,7,0,2,9⟩
def q2:Rq:=⟨8,8,0,0,0⟩
def q3:Rq:=⟨6,9,0,2,0⟩
def k0:Nat:=3
def S0:Egs:=eg0 64 16 k0 4 4 8
def S1:Egs:=(doE 64 k0 16 S0 (rqF q1)).1
def S2:Egs:=(doE 64 k0 16 S1 (rqF q2)).1
def b00:Bk:=newB 4 4 8
def S3:Egs:=openE 64 k0 (rcB 64 16 k0 1 0 b00 S2.D) (0+rcM 64 16 k0 1 0 b00 S2.D) S2.D S2.oa S2.ob
theorem ck1:(doE 64 k0 16 S0 (rqF q1)).2=[]:=by decide +kernel
def rpN (r:Rp):List Nat:=[r.tag,r.k,r.err,r.id,r.seat,r.til,r.cnt]
theorem rpN_inj {a b:Rp}(h:rpN a=rpN b):a=b:=by
 cases a;cases b
 simp only [rpN,List.cons.injEq,and_true] at h;obtain ⟨h1,h2,h3,h4,h5,h6,h7⟩:=h;subst h1 h2 h3 h4 h5 h6 h7;rfl
theorem rpNs_inj:∀{a b:List Rp},a.map rpN=b.map rpN→a=b
 | [],[],_=>rfl
 | [],_::_,h=>by cases h
 | _::_,[],h=>by cases h
 | x::a,y::b,h=>by
  simp only [List.map_cons,List.cons.injEq] at h;rw [rpN_inj h.1,rpNs_inj h.2]
theorem ck2:(doE 64 k0 16 S1 (rqF q2)).2=[⟨7,1,0,1,0,9,0⟩,⟨8,8,0,0,0,0,1⟩]:=rpNs_inj (by decide +kernel)
theorem ck3:S2.oa=some (1,0,imgF b00)∧S2.ob=none∧S2.b.s=4∧S2.b.c=4∧S2.b.g=8:=by decide +kernel
theorem ck4:(doE 64 k0 16 S3 (rqF q3)).2=[⟨9,6,0,1,0,9,0⟩]:=rpNs_inj (by decide +kernel)
theorem okq1:OkRq q1:=by constructor<;>decide +kernel
theorem okq2:OkRq q2:=by constructor<;>decide +kernel
theorem okq3:OkRq q3:=by constructor<;>decide +kernel
theorem opn0:Opn 0 64 16 3 4 4 8:=by constructor<;>decide +kernel
theorem snd0:Sound b00:=by
 unfold b00;exact newB_sound (by decide) (by decide) (by decide)
theorem bks0:Bks S2.oa S2.ob 4 4 8 1 0 b00:=by
 rw [ck3.1,ck3.2.1];exact Or.inr ⟨_,_,rfl,rfl,rfl,rfl,snd0,rfl,rfl,rfl⟩
theorem gen0:1=SlotPlain.gen S2.oa S2.ob∧0=SlotPlain.cov S2.oa S2.ob:=by
 rw [ck3.1,ck3.2.1];exact ⟨rfl,rfl⟩
theorem okr1:OkRp ⟨7,1,0,1,0,9,0⟩:=by constructor<;>decide +kernel
theorem okr3:OkRp ⟨9,6,0,1,0,9,0⟩:=by constructor<;>decide +kernel
theorem mk1:maskF 1 0=5:=by decide +kernel
theorem mk3:maskF 6 0=5:=by decide +kernel
theorem ropen_at (p z n k:Nat)(D:List Nat)(F:Nat→Prop)(c t g0 c0:Nat)(b0:Bk)(oa ob:Option SlotPlain.Sl)(w:World)(h1:Bks oa ob b0.s b0.c b0.g g0 c0 b0)(h2:Sound b0)(h6:g0=SlotPlain.gen oa ob)(h7:c0=SlotPlain.cov oa ob)(ho:Opn p z n k b0.s b0.c b0.g)(hp:Pw w p z n D F c 0)(hd:Dsk D z k b0.s b0.c b0.g oa ob (99+t) (10000*t+98000))(hc:c+1000≤100000*t+100000000)(ht:t≤400)(hgl:Glb w)(hF1:∀x,F x→1<x):
 Calls Tryz.prog 11 #[.pointer (some ⟨p,0,none⟩),.agg #[.int .i64 b0.s,.int .i64 b0.c,.int .i64 b0.g]] w (ROpn w p z n k D F c g0 c0 t b0 oa ob):=by
 obtain ⟨g',c',b',_,_,_,_,_,e6,e7,e8,e9⟩:=bks_of hd ho.s1 ho.c1 ho.g1;rw [e6,←h6] at e8;rw [e7,←h7] at e9;have hk:=slotN_two ho.s1.1 ho.c1.1 ho.zz.1 (by have:=ho.zz.2;omega);rw [ho.kk] at hk;have hkn:=ho.kn;have hnz:(n-2*k)*z≤25000:=by
  have h9:(n-2*k)*z≤96*256:=Nat.mul_le_mul (by have:=ho.nn;omega) ho.zz.2;omega
 refine ropen_any p z n k D F c g0 c0 t b0 oa ob w (hid (fun W' hb=>?_)) hp hk.1 hkn hd h6 h7 h2 hc ht hgl hF1 hnz hk.2;refine rbuild_any p z n k D F c g0 c0 (99+t) (10000*t+98000) b0 oa ob (2*k) (n-2*k) W' rfl rfl (hp.new hb) (hid (fun W2=>?_)) hk.1 hkn hd h1 h2 (by omega) (by omega) (by omega) (hgl.new hb) hF1 hnz;exact plan_ok b0.s b0.c b0.g z n k W2 ho.s1.1 (by have:=ho.s1.2;omega) ho.c1.1 (by have:=ho.c1.2;omega) ho.g1.1 ho.g1.2 ho.sz ho.nn ho.kk hkn
end
end Go.Proofs.YtdjiopacieadpaaGreatDoor
