/- TopNear: part Pbf: CsF CsG CsH. -/
import Derived.Test.YtdjiopacieadpaaGreatDoorPbe
set_option linter.unusedVariables false
set_option linter.unusedSimpArgs false
set_option maxRecDepth 8000
set_option maxHeartbeats 8000000
namespace Go.Proofs.YtdjiopacieadpaaGreatDoor
section
open Go.RowKit BookPlain
def isChg (k:Nat):Prop:=k=1∨k=2∨k=3∨k=4∨k=7
theorem change_any (p:Nat)(F:Nat→Prop)(K:Nat)(b:Bk)(q:Rq)(w:World)(h:Bkk w p F K b)(hk:isChg q.k):Calls Tryz.prog 174 #[.pointer (some ⟨p,0,none⟩),.agg (rqC q.k q.tag q.id q.seat q.ttl)] w (CChg w b q):=by
 obtain ⟨k,tag,id,seat,ttl⟩:=q;dsimp only at hk ⊢;rcases hk with rfl | rfl | rfl | rfl | rfl
 ·exact change_1 p F K b tag id seat ttl w h
 ·exact change_2 p F K b tag id seat ttl w h
 ·exact change_3 p F K b tag id seat ttl w h
 ·exact change_4 p F K b tag id seat ttl w h
 ·exact change_7 p F K b tag id seat ttl w h
theorem need_of (b:Bk)(q:Rq)(hk:isChg q.k):22+szR (recV b q).k = needF q.k:=by
 unfold recV needF szR;rcases hk with h | h | h | h | h<;>rw [h]<;>simp
theorem ttl_of {b:Bk}{q:Rq}{need room:Nat}(h:ruleF b q need room 1=0):q.ttl≤TTL:=by
 have h':(if q.ttl<1∨TTL<q.ttl then 2 else 0)=0:=h;split at h'
 ·cases h'
 ·rename_i e;omega
theorem rules_any (p:Nat)(F:Nat→Prop)(K:Nat)(b:Bk)(q:Rq)(room:Nat)(hs:Sound b)(hk:isChg q.k)(hi:q.id<4294967296)(i j:Nat)(hj:(rulesF q.k)[i]?=some j)(hp:∀j'∈(rulesF q.k).take i,ruleF b q (needF q.k) room j'=0)(w:World)(h:Bkk w p F K b):
 Calls Tryz.prog (fnJ j) #[.agg (askC p q (recV b q) room)] w (CRule w p F K b (ruleF b q (needF q.k) room j)):=by
 have hn:=need_of b q hk;have hcl:b.clock≤M:=hs.hk;have hlen:=hs.toFine.len;have key:j=0∨j=1∨(j=2∧q.ttl≤TTL)∨j=3∨j=4∨j=5∨j=6:=by
  rcases hk with e | e | e | e | e
  all_goals rw [e] at hj hp
  all_goals
   match i,hj,hp with
   | 0,hj,hp=>simp [rulesF] at hj<;>omega
   | 1,hj,hp=>
    have:=fun h1=>ttl_of (b:=b) (q:=q) (hp 1 h1)
    simp [rulesF] at hj this<;>omega
   | 2,hj,hp=>
    have:=fun h1=>ttl_of (b:=b) (q:=q) (hp 1 h1)
    simp [rulesF] at hj this<;>omega
   | 3,hj,hp=>simp [rulesF] at hj<;>omega
   | 4,hj,hp=>simp [rulesF] at hj<;>omega
   | 5,hj,hp=>simp [rulesF] at hj<;>omega
   | n+6,hj,hp=>simp [rulesF] at hj
 rcases key with rfl | rfl | ⟨rfl,ht⟩ | rfl | rfl | rfl | rfl
 ·exact rule0_any p F K b q _ room _ w h
 ·exact rule1_any p F K b q _ room _ w h
 ·exact rule2_any p F K b q _ room _ w h hcl ht
 ·exact rule3_any p F K b q _ room _ w h hlen
 ·exact rule4_any p F K b q _ room _ w h
 ·exact rule5_any p F K b q _ room _ w h hi
 ·exact rule6_any p F K b q _ room _ w h hn
theorem fnJ_enters {j:Nat}(h:j≤6):∀args w,(callFunc (fnJ j) args).run Tryz.prog w = .ok (.enter (fnJ j) args) w:=by
 obtain h | h | h | h | h | h | h:j=0∨j=1∨j=2∨j=3∨j=4∨j=5∨j=6:=by omega
 all_goals subst h
 ·exact enters_of Tryz.func200 (by kernel_rfl) rfl
 ·exact enters_of Tryz.func201 (by kernel_rfl) rfl
 ·exact enters_of Tryz.func202 (by kernel_rfl) rfl
 ·exact enters_of Tryz.func203 (by kernel_rfl) rfl
 ·exact enters_of Tryz.func204 (by kernel_rfl) rfl
 ·exact enters_of Tryz.func206 (by kernel_rfl) rfl
 ·exact enters_of Tryz.func205 (by kernel_rfl) rfl
theorem results_row22 {P:Program}{fn:Func}{p p2 u v:Tmp}{ty ty2:TypeId}(h:fn.results=#[.cell p ty,.cell p2 ty2,.tmp u,.tmp v])(tmps:Array Value)(w:World)(g g2:Nat)(t t2:TypeId)(cs cs2:Array Value)(fr fr2:Nat×Nat)(d d2:TypeDesc)(hp:tmps.getD p undef = .pointer (some ⟨g,0,none⟩))(hg:w.heap[g]?=some (.cells cs t fr))(hu:P.underlying ty=some d)(hd:(match d with | .struct _ | .array _ _=>true | _=>false)=true)(hi:(P.info? ty).map (·.size)=some cs.size)(hp2:tmps.getD p2 undef = .pointer (some ⟨g2,0,none⟩))(hg2:w.heap[g2]?=some (.cells cs2 t2 fr2))(hu2:P.underlying ty2=some d2)(hd2:(match d2 with | .struct _ | .array _ _=>true | _=>false)=true)(hi2:(P.info? ty2).map (·.size)=some cs2.size):
 (results fn tmps).run P w = .ok (.tuple #[.agg cs,.agg cs2,tmps.getD u undef,tmps.getD v undef]) w:=by
 have hp':tmps[p]?.getD undef = .pointer (some ⟨g,0,none⟩):=by simpa using hp
 have hp2':tmps[p2]?.getD undef = .pointer (some ⟨g2,0,none⟩):=by simpa using hp2
 simp [results,h,hp',hp2',asAddr,run_loadVar_row w g t ty cs fr d hg hu hd hi,run_loadVar_row w g2 t2 ty2 cs2 fr2 d2 hg2 hu2 hd2 hi2]
theorem refuse_at {b:Bk}{q:Rq}{room:Nat}:∀(l:List Nat) (n j:Nat),l[n]?=some j→(∀j'∈l.take n,ruleF b q (needF q.k) room j'=0)→ruleF b q (needF q.k) room j≠0→refuse b q room l=ruleF b q (needF q.k) room j
 | [],n,j,h,_,_=>by simp at h
 | i::l,0,j,h,_,h0=>by
  simp at h;subst h;show (if ruleF b q (needF q.k) room i=0 then _ else _)=_
  rw [if_neg h0]
 | i::l,n+1,j,h,hp,h0=>by
  show (if ruleF b q (needF q.k) room i=0 then _ else _)=_
  rw [if_pos (hp i (by simp))];exact refuse_at l n j (by simpa using h) (fun j' hj'=>hp j' (by simp [hj'])) h0
theorem refuse_none {b:Bk}{q:Rq}{room:Nat}:∀(l:List Nat),(∀j'∈l,ruleF b q (needF q.k) room j'=0)→refuse b q room l=0
 | [],_=>rfl
 | i::l,hp=>by
  show (if ruleF b q (needF q.k) room i=0 then _ else _)=_
  rw [if_pos (hp i (by simp))];exact refuse_none l (fun j' hj'=>hp j' (by simp [hj']))
def zRc:Array Value:=#[.int .i64 0,.int .u32 0,.int .i64 0,.int .i64 0,.int .i64 0]
def refV (q:Rq)(n:Nat):Array Value:=#[.int .u32 q.tag,.int .i64 q.k,.int .i64 n,.int .u32 0,.int .i64 0,.int .i64 0,.int .i64 0]
def CDec (w:World)(p:Nat)(F:Nat→Prop)(K:Nat)(b:Bk)(q:Rq)(room:Nat)(e:Ending)(w':World):Prop:=
 Bkk w' p F K b∧Kp F w w'∧((BookPlain.refusal b q room=0∧e = .returned (.tuple #[.agg (recV b q).cells,.agg (rplV q (recV b q)),.bool true,.int .i64 0]))∨(BookPlain.refusal b q room≠0∧e = .returned (.tuple #[.agg zRc,.agg (refV q (BookPlain.refusal b q room)),.bool false,.int .i64 0])))
structure Dst9 (w:World)(p:Nat)(F:Nat→Prop)(K:Nat)(b:Bk)(q:Rq)(A g:Nat)(wr:World):Prop where
 bk:Bkk wr p F K b
 kp:Kp F w wr
 hq:wr.heap[w.heap.size]?=some (.cells (rqC q.k q.tag q.id q.seat q.ttl) 48 (0,0))
 r0:wr.heap[w.heap.size+1]?=some (.cells zRc 223 (0,0))
 p0:wr.heap[w.heap.size+1+1]?=some (.cells zRp 50 (0,0))
 rc:wr.heap[A]?=some (.cells (recV b q).cells 223 (0,0))
 ru:wr.heap[g]?=some (.cells ((rulesF q.k).map ruV).toArray 289 (0,0))
 ge:w.heap.size+1+1<A∧w.heap.size≤g∧A≠g∧g≠w.heap.size∧g≠w.heap.size+1∧g≠w.heap.size+1+1
theorem Dst9.step {w:World}{p:Nat}{F:Nat→Prop}{K:Nat}{b:Bk}{q:Rq}{A g:Nat}{wr wr':World}(h:Dst9 w p F K b q A g wr)(hF:∀x,F x→x<w.heap.size)(hk:Kp F wr wr')(hb:Bkk wr' p F K b):Dst9 w p F K b q A g wr':=by
 have hn:∀x,w.heap.size≤x→ ¬F x:=fun x hx e=>by have:=hF x e;omega
 have:=h.ge;exact ⟨hb,h.kp.trans hk,hk.blk h.hq (hn _ (by omega)),hk.blk h.r0 (hn _ (by omega)),hk.blk h.p0 (hn _ (by omega)),hk.blk h.rc (hn _ (by omega)),hk.blk h.ru (hn _ (by omega)),h.ge⟩
theorem Dst9.new {w:World}{p:Nat}{F:Nat→Prop}{K:Nat}{b:Bk}{q:Rq}{A g:Nat}{wr wr':World}(h:Dst9 w p F K b q A g wr)(hF:∀x,F x→x<w.heap.size)(hb:Below wr.heap.size wr wr'):Dst9 w p F K b q A g wr':=h.step hF (Kp.of_new hb) (h.bk.new hb)
theorem cdecide_any (p:Nat)(F:Nat→Prop)(K:Nat)(b:Bk)(q:Rq)(room:Nat)(w:World)(h:Bkk w p F K b)(hs:Sound b)(hq:OkRq q)(hk:isChg q.k):
 Calls Tryz.prog 140 #[.pointer (some ⟨p,0,none⟩),.int .i64 room,.agg (rqC q.k q.tag q.id q.seat q.ttl)] w (CDec w p F K b q room):=by
 have N:=new3 w (.cells (rqC q.k q.tag q.id q.seat q.ttl) 48) (.cells zRc 223) (.cells zRp 50);obtain ⟨W,hW⟩:∃W,((w.alloc (.cells (rqC q.k q.tag q.id q.seat q.ttl) 48)).alloc (.cells zRc 223)).alloc (.cells zRp 50)=W:=⟨_,rfl⟩;rw [hW] at N;have HN:=hid N;have HW:=hid hW;have HSH:=hid (kshape p F K b W (h.new N.2.2.2.2));have HCH:=hid (fun W' (hb:Below w.heap.size w W')=>change_any p F K b q W' (h.new hb) hk);have HCK:=hid (fun W'=>reqcheck_any q hq W');have HFL:=hid h.flt;have hb0:¬((b.s:Int)=0):=by have:=hs.hs;omega
 have HS:=hid hs;have HB:=hid h;have HK:=hid hk;have HQ:=hid hq;clear N hW h hs hk hq;unfold rqC zRc zRp at HW;unfold rqC;unfold rqC at HCH HCK;go_enter Tryz.func140,Tryz.ntmps140;go_wp2_with fail;rw [HW.out];refine HSH.out.mono ?_;rintro e w1 ⟨rfl,hb1⟩;have hbw1:Below w.heap.size w w1:=HN.out.2.2.2.2.trans (hb1.mono HN.out.2.2.2.2.size);have eA:=Bl.blk hb1 HN.out.1;have eB:=Bl.blk hb1 HN.out.2.1;have eC:=Bl.blk hb1 HN.out.2.2.1;have eA':=eA;unfold rqC at eA';obtain ⟨q0,_,q1,_,q2,_,q3,_,q4,_⟩:=cells5 eA';have HBW1:=hid hbw1;have EA:=hid eA;have EB:=hid eB;have EC:=hid eC;clear hbw1 eA eB eC eA' hb1;go_wp2_with fail;refine (HCH.out _ HBW1.out).mono ?_;rintro e w2 ⟨g,rfl,hg,hg9,hb2⟩;have N3:=new1 w2 (.cells (recV b q).cells 223);obtain ⟨W3,hW3⟩:∃W3,w2.alloc (.cells (recV b q).cells 223)=W3:=⟨_,rfl⟩;rw [hW3] at N3;have hb3:Below w1.heap.size w1 W3:=hb2.trans (N3.2.2.mono hb2.size);have hw1s:w.heap.size+1+1<w1.heap.size:=heap_lt EC.out;have hD:Dst9 w p F K b q w2.heap.size g W3:=by
  have hbw:Below w.heap.size w W3:=HBW1.out.trans (hb3.mono HBW1.out.size);have hg3:=Bl.blk N3.2.2 hg;have a1:=Bl.blk hb3 EA.out;have a2:=Bl.blk hb3 EB.out;have a3:=Bl.blk hb3 EC.out;have hty:∀{k:Nat} {c:Array Value} {t:TypeId},W3.heap[k]?=some (.cells c t (0,0))→t≠289→g≠k:=by
   rintro k c t hk ht rfl;rw [hg3] at hk;injection hk with hk;injection hk with _ hk _;exact ht hk.symm
  have n1:=hty a1 (by decide);have n2:=hty a2 (by decide);have n3:=hty a3 (by decide);have n4:=hty N3.1 (by decide);have hgs:w.heap.size≤g:=Nat.le_trans HBW1.out.size hg9;refine ⟨HB.out.new hbw,Kp.of_new hbw,a1,a2,a3,N3.1,hg3,?_⟩;have:=hb2.size;exact ⟨by omega,hgs,fun e=>n4 e.symm,n1,n2,n3⟩
 have HD:=hid hD;have HRU:=hid (fun i j hj hp W' h=>rules_any p F K b q room HS.out HK.out HQ.out.id i j hj hp W' h);have hrc:=N3.1;have hqq:=hD.hq;clear N3 hb2 hb3 hg hD hw1s hg9;generalize hr:recV b q=r at *;have HRR:=hid hr;obtain ⟨rk,ri,rs,ru,rq⟩:=r;unfold Rec.cells at hrc hW3 ⊢;dsimp only at hrc hW3 ⊢;unfold rqC at hqq;clear q0 q1 q2 q3 q4;obtain ⟨q0,_,q1,_,q2,_,q3,_,q4,_⟩:=cells5 hqq;obtain ⟨r0,_,r1,_,r2,_,r3,_,r4,_⟩:=cells5 hrc;clear hrc hqq;go_wp2_with fail;refine (HCK.out _).mono ?_;rintro e w4 ⟨rfl,hb4⟩;have hD4:=HD.out.new HFL.out hb4;have HD4:=hid hD4;clear hD4 hb4;go_wp2_with fail;have HR0:=hid hr;clear hr;obtain ⟨Lr,hLr⟩:∃Lr,rulesF q.k=Lr:=⟨_,rfl⟩;have HLR:=hid hLr;rw [hLr] at HRU ⊢;have hl6:Lr.length≤6:=by
  rw [←hLr];rcases HK.out with e | e | e | e | e<;>rw [e]<;>decide
 have hj6:∀j∈Lr,j≤6:=by
  rw [←hLr];rcases HK.out with e | e | e | e | e<;>rw [e]<;>decide
 have HJ6:=hid hj6;clear hLr hj6 q0 q1 q2 q3 q4 r0 r1 r2 r3 r4;go_loopw [40] (fun i wr=> ∃n:Nat,i = .int .i64 n∧n≤Lr.length∧(∀j'∈Lr.take n,ruleF b q (needF q.k) room j'=0)∧Dst9 w p F K b q w2.heap.size g wr) (fun i wr=>Lr.length-(intOf i).toNat)
 case atStart=>exact ⟨0,rfl,Nat.zero_le _,fun j hj=>by simp at hj,HD4.out⟩
 case round=>
  obtain ⟨n,rfl,hn,hz,hD⟩:=hrel;have hqq:=hD.hq;have hrc:=hD.rc;rw [HR0.out] at hrc;unfold rqC at hqq;unfold Rec.cells at hrc;dsimp only at hrc;obtain ⟨q0,_,q1,_,q2,_,q3,_,q4,_⟩:=cells5 hqq;obtain ⟨r0,_,r1,_,r2,_,r3,_,r4,_⟩:=cells5 hrc;by_cases hlt:n<Lr.length
  ·have hnI:(n:Int)<(Lr.length:Int):=by omega
   obtain ⟨j,hj⟩:∃j,Lr[n]?=some j:=⟨_,List.getElem?_eq_getElem hlt⟩;have hru:=hD.ru;rw [HLR.out] at hru;have hcell:wr.cell? ⟨g,n,none⟩=some (.func (.func (fnJ j)) #[] #[]):=by
    rw [(blk hru).1 n,List.getElem?_toArray,List.getElem?_map,hj];rfl
   have hcf:=fnJ_enters (HJ6.out j (List.mem_of_getElem? hj));have HC:=hid (HRU.out n j hj hz wr hD.bk);have HDD:=hid hD;have HZ:=hid hz;have HJ:=hid hj;clear hD hz hj hqq hrc hru;go_wp2_with fail;refine HC.out.mono ?_;rintro e w5 ⟨rfl,hB5,hk5⟩;have HD5:=hid (HDD.out.step HFL.out hk5 hB5);clear hB5 hk5 q0 q1 q2 q3 q4 r0 r1 r2 r3 r4 hcell hcf;obtain ⟨er,her⟩:∃er,ruleF b q (needF q.k) room j=er:=⟨_,rfl⟩;have HER:=hid her;rw [her];clear her;by_cases h0:er=0
   ·subst h0;go_wp2_with fail;go_roundw;case rel=>
     refine ⟨n+1,by go_num,by omega,fun j' hj'=>?_,HD5.out⟩;rw [List.take_succ_eq_append_getElem hlt] at hj';rcases List.mem_append.1 hj' with h | h
     ·exact HZ.out j' h
     ·have e1:=List.mem_singleton.1 h;have e2:=(List.getElem?_eq_some_iff.1 HJ.out).2;rw [e1,e2];exact HER.out
    case measure=>simp [intOf];omega
   ·have h0I:¬((er:Int)=0):=by omega
    have hqq:=HD5.out.hq;have hrr:=HD5.out.r0;have hpp:=HD5.out.p0;unfold rqC at hqq;unfold zRc at hrr;unfold zRp at hpp;obtain ⟨q0,_,q1,_,q2,_,q3,_,q4,_⟩:=cells5 hqq;obtain ⟨z0,y0,z1,y1,z2,y2,z3,y3,z4,y4⟩:=cells5 hrr;obtain ⟨o0,p0,o1,p1,o2,p2,o3,p3,o4,p4,o5,p5,o6,p6⟩:=cells7 hpp;have HRRR:=hid hrr;have HPP:=hid hpp;clear hqq hrr hpp;go_wp2_with fail;go_region
    go_wp2_with fail;have hrr:=HRRR.out;have hpp:=HPP.out;have k5:=rset5_kp (F:=fun x=>x=w.heap.size+1∨x=w.heap.size+1+1) (Kp.refl _ w5) (Or.inl rfl) (.int .i64 0) (.int .u32 0) (.int .i64 0) (.int .i64 0) (.int .i64 0);have k12:=rset7_kp (F:=fun x=>x=w.heap.size+1∨x=w.heap.size+1+1) k5 (R:=w.heap.size+1+1) (Or.inr rfl) (.int .u32 q.tag) (.int .i64 q.k) (.int .i64 er) (.int .u32 0) (.int .i64 0) (.int .i64 0) (.int .i64 0);have f1:=rset5 (x0:= .int .i64 0) (x1:= .int .u32 0) (x2:= .int .i64 0) (x3:= .int .i64 0) (x4:= .int .i64 0) hrr;have f2:=(rset5_kp (F:=fun x=>x=w.heap.size+1) (Kp.refl _ w5) rfl (.int .i64 0) (.int .u32 0) (.int .i64 0) (.int .i64 0) (.int .i64 0)).blk hpp (by omega);have f1':=(rset7_kp (F:=fun x=>x=w.heap.size+1+1) (R:=w.heap.size+1+1) (Kp.refl _ _) rfl (.int .u32 q.tag) (.int .i64 q.k) (.int .i64 er) (.int .u32 0) (.int .i64 0) (.int .i64 0) (.int .i64 0)).blk f1 (by omega);have f2':=rset7 (x0:= .int .u32 q.tag) (x1:= .int .i64 q.k) (x2:= .int .i64 er) (x3:= .int .u32 0) (x4:= .int .i64 0) (x5:= .int .i64 0) (x6:= .int .i64 0) f2;have F1:=hid (heap_drew f1');have F2:=hid (heap_drew f2');have hnF:∀x,F x→ ¬(x=w.heap.size+1∨x=w.heap.size+1+1):=fun x hx e=>by have:=HFL.out x hx;omega
    have hkk:=HD5.out.kp.then k12.drew (fun i e=>Or.inr (by omega));have hbk:=HD5.out.bk.stay k12.drew hnF;have hrf:BookPlain.refusal b q room=er:=by
     show refuse b q room (rulesF q.k)=er
     rw [HLR.out,refuse_at Lr n j HJ.out HZ.out (by rw [HER.out];exact h0),HER.out]
    have HKK:=hid hkk;have HBK:=hid hbk;have HRF:=hid hrf;clear hrr hpp k5 k12 f1 f2 f1' f2' hnF hkk hbk hrf;refine bodyPost_ret (results_row22 rfl _ _ _ _ _ _ _ _ _ _ _ _ rfl F1.out Tryz.underlying223 rfl (by kernel_rfl) rfl F2.out Tryz.underlying50 rfl (by kernel_rfl)) rfl ?_;exact ⟨HBK.out,HKK.out,Or.inr ⟨by rw [HRF.out];exact h0,by rw [HRF.out];rfl⟩⟩
  ·have hnI:¬(n:Int)<(Lr.length:Int):=by omega
   have hn9:n=Lr.length:=by omega
   have hz9:BookPlain.refusal b q room=0:=by
    show refuse b q room (rulesF q.k)=0
    rw [HLR.out];exact refuse_none Lr (fun j hj=>hz j (by rw [hn9,List.take_length];exact hj))
   have HDD:=hid hD;have HRP:Hid (∀W',Calls Tryz.prog 175 #[.agg #[.int .i64 q.k,.int .u32 q.tag,.int .u32 q.id,.int .i64 q.seat,.int .i64 q.ttl],.agg #[.int .i64 rk,.int .u32 ri,.int .i64 rs,.int .i64 ru,.int .i64 rq]] W' fun e w'=>e = .returned (.agg (rplV q ⟨rk,ri,rs,ru,rq⟩))∧Below W'.heap.size W' w'):=hid (fun W'=>creply_any q ⟨rk,ri,rs,ru,rq⟩ W');have HZ:=hid hz9;have HQR:=hid hqq;have HRC:=hid hrc;have HRR0:=hid hD.r0;have HPP0:=hid hD.p0;clear hqq hrc hD hz hz9 hn9 q0 q1 q2 q3 q4 r0 r1 r2 r3 r4;go_wp2_with fail;refine wp_region_held_drew (S:=fun w'=>w'.heap[w.heap.size]?=some (.cells #[.int .i64 q.k,.int .u32 q.tag,.int .u32 q.id,.int .i64 q.seat,.int .i64 q.ttl] 48 (0,0))∧w'.heap[w2.heap.size]?=some (.cells #[.int .i64 rk,.int .u32 ri,.int .i64 rs,.int .i64 ru,.int .i64 rq] 223 (0,0))) (by kernel_rfl) (⟨HQR.out,HRC.out⟩) (fun hHeld=>?_);refine tkm 3 [(0,61),(1,62),(2,63)] (by kernel_rfl) (fun _ _ _ _ _ h=>h) (by assumption) ?_;iterate 3
    refine ysC (v:=?_) rfl rfl (fun w9 hS9=>?_) ?_;rotate_left
    ·obtain ⟨q0,_,q1,_,q2,_,q3,_,q4,_⟩:=cells5 hS9.1;obtain ⟨r0,_,r1,_,r2,_,r3,_,r4,_⟩:=cells5 hS9.2;go_simp;try with_reducible rfl
    simp only [Act.put,List.setIfInBounds_toArray,List.set_cons_zero,List.set_cons_succ]
   refine ysN ?_;refine rd1 3 (by kernel_rfl) rfl (fun K9 hK9=>?_);go_simp;refine (HRP.out _).mono ?_;rintro e w5 ⟨rfl,hb5⟩;have hrr:w5.heap[w.heap.size+1]?=some (.cells zRc 223 (0,0)):=Bl.blk hb5 HRR0.out;have hpp:w5.heap[w.heap.size+1+1]?=some (.cells zRp 50 (0,0)):=Bl.blk hb5 HPP0.out;have hq5:w5.heap[w.heap.size]?=some (.cells #[.int .i64 q.k,.int .u32 q.tag,.int .u32 q.id,.int .i64 q.seat,.int .i64 q.ttl] 48 (0,0)):=Bl.blk hb5 HQR.out;have hc5:w5.heap[w2.heap.size]?=some (.cells #[.int .i64 rk,.int .u32 ri,.int .i64 rs,.int .i64 ru,.int .i64 rq] 223 (0,0)):=Bl.blk hb5 HRC.out;have HD5:=hid (HDD.out.new HFL.out ((Below.refl _ wr).drew.trans hb5));unfold zRc at hrr;unfold zRp at hpp;obtain ⟨z0,y0,z1,y1,z2,y2,z3,y3,z4,y4⟩:=cells5 hrr;go_simp;refine hK9.out _ _ ⟨hq5,hc5⟩ (fun hHeld=>?_);clear hK9 K9;refine rd1 4 (by kernel_rfl) rfl (fun K9 hK9=>?_);go_simp;have k5:=rset5_kp (F:=fun x=>x=w.heap.size+1) (Kp.refl _ w5) rfl (.int .i64 rk) (.int .u32 ri) (.int .i64 rs) (.int .i64 ru) (.int .i64 rq);have f1:=rset5 (x0:= .int .i64 rk) (x1:= .int .u32 ri) (x2:= .int .i64 rs) (x3:= .int .i64 ru) (x4:= .int .i64 rq) hrr;have f2:=k5.blk hpp (by omega);have f3:=k5.blk hq5 (by omega);have f4:=k5.blk hc5 (by have:=HDD.out.ge;omega);refine hK9.out _ _ ⟨f3,f4⟩ (fun hHeld=>?_);clear hK9 K9 z0 y0 z1 y1 z2 y2 z3 y3 z4 y4;generalize ((((w5.setCell ⟨w.heap.size+1,0,none⟩ (.int .i64 rk)).setCell ⟨w.heap.size+1,1,none⟩ (.int .u32 ri)).setCell ⟨w.heap.size+1,2,none⟩ (.int .i64 rs)).setCell ⟨w.heap.size+1,3,none⟩ (.int .i64 ru)).setCell ⟨w.heap.size+1,4,none⟩ (.int .i64 rq)=w6 at *;obtain ⟨o0,p0,o1,p1,o2,p2,o3,p3,o4,p4,o5,p5,o6,p6⟩:=cells7 f2;refine rd1 5 (by kernel_rfl) rfl (fun K9 hK9=>?_);unfold rplV;go_simp;have k7:=rset7_kp (F:=fun x=>x=w.heap.size+1+1) (Kp.refl _ w6) rfl (.int .u32 q.tag) (.int .i64 q.k) (.int .i64 0) (.int .u32 (if q.k=1 then ri else 0)) (.int .i64 (if q.k=4 then rs else 0)) (.int .i64 (if q.k=1 then ru else if q.k=7 then rq else 0)) (.int .i64 0);have g1:=k7.blk f1 (by omega);have g2:=rset7 (x0:= .int .u32 q.tag) (x1:= .int .i64 q.k) (x2:= .int .i64 0) (x3:= .int .u32 (if q.k=1 then ri else 0)) (x4:= .int .i64 (if q.k=4 then rs else 0)) (x5:= .int .i64 (if q.k=1 then ru else if q.k=7 then rq else 0)) (x6:= .int .i64 0) f2;have g3:=k7.blk f3 (by omega);have g4:=k7.blk f4 (by have:=HDD.out.ge;omega);refine hK9.out _ _ ⟨g3,g4⟩ (fun hHeld=>?_);clear hK9 K9 o0 p0 o1 p1 o2 p2 o3 p3 o4 p4 o5 p5 o6 p6;generalize ((((((w6.setCell ⟨w.heap.size+1+1,0,none⟩ (.int .u32 q.tag)).setCell ⟨w.heap.size+1+1,1,none⟩ (.int .i64 q.k)).setCell ⟨w.heap.size+1+1,2,none⟩ (.int .i64 0)).setCell ⟨w.heap.size+1+1,3,none⟩ (.int .u32 (if q.k=1 then ri else 0))).setCell ⟨w.heap.size+1+1,4,none⟩ (.int .i64 (if q.k=4 then rs else 0))).setCell ⟨w.heap.size+1+1,5,none⟩ (.int .i64 (if q.k=1 then ru else if q.k=7 then rq else 0))).setCell ⟨w.heap.size+1+1,6,none⟩ (.int .i64 0)=w7 at *;have HK5:=hid k5;have HK7:=hid k7;have HG1:=hid g1;have HG2:=hid g2;clear k5 k7 g1 g2 g3 g4 f1 f2 f3 f4 hrr hpp hq5 hc5;refine tkm 2 [(6,8),(7,9)] (by kernel_rfl) (fun _ _ _ _ _ h=>h) (by assumption) ?_;iterate 2
    refine ysC (v:=?_) rfl rfl (fun w9 hS9=>?_) ?_;rotate_left
    ·obtain ⟨q0,_,q1,_,q2,_,q3,_,q4,_⟩:=cells5 hS9.1;obtain ⟨r0,_,r1,_,r2,_,r3,_,r4,_⟩:=cells5 hS9.2;go_simp;try with_reducible rfl
    simp only [Act.put,List.setIfInBounds_toArray,List.set_cons_zero,List.set_cons_succ]
   refine ysN ?_;refine wpAnyH_done (by kernel_rfl) ?_ _;go_wp2_with fail;all_goals
    have hnF:∀x,F x→ ¬(x=w.heap.size+1):=fun x hx e=>by have:=HFL.out x hx;omega
    have hnF2:∀x,F x→ ¬(x=w.heap.size+1+1):=fun x hx e=>by have:=HFL.out x hx;omega
    refine bodyPost_ret (results_row22 rfl _ _ _ _ _ _ _ _ _ _ _ _ rfl HG1.out Tryz.underlying223 rfl (by kernel_rfl) rfl HG2.out Tryz.underlying50 rfl (by kernel_rfl)) rfl ?_;exact ⟨(HD5.out.bk.stay HK5.out hnF).stay HK7.out hnF2,(HD5.out.kp.then HK5.out (fun i e=>Or.inr (by have:i=w.heap.size+1:=e;omega))).then HK7.out (fun i e=>Or.inr (by have:i=w.heap.size+1+1:=e;omega)),Or.inl ⟨HZ.out,by rw [HR0.out];rfl⟩⟩
def isAsk (k:Nat):Prop:=k=5∨k=6∨k=10
def CAns (w:World)(p:Nat)(F:Nat→Prop)(K:Nat)(b:Bk)(q:Rq)(e:Ending)(w':World):Prop:=e = .returned (.tuple #[.agg (rpC (answerQ b q)),.int .i64 0])∧Bkk w' p F K b∧Kp F w w'
theorem canswer_5 (p:Nat)(F:Nat→Prop)(K:Nat)(b:Bk)(tag id seat ttl:Nat)(w:World)(h:Bkk w p F K b)(hs:Sound b)(hq:OkRq ⟨5,tag,id,seat,ttl⟩):Calls Tryz.prog 134 #[.pointer (some ⟨p,0,none⟩),.agg (rqC 5 tag id seat ttl)] w (CAns w p F K b ⟨5,tag,id,seat,ttl⟩):=by
 obtain ⟨X,hX⟩:∃X,getA b id=X:=⟨_,rfl⟩;obtain ⟨⟨x0,x1,x2⟩,er⟩:=X;have hans:rpC (answerQ b ⟨5,tag,id,seat,ttl⟩)=#[.int .u32 tag,.int .i64 5,.int .i64 er,.int .u32 0,.int .i64 x1,.int .i64 x2,.int .i64 0]:=by
  unfold getA at hX;unfold answerQ;cases hg:get b id with
  | none=>
   rw [hg] at hX;simp only [z,Prod.mk.injEq] at hX;obtain ⟨⟨rfl,rfl,rfl⟩,rfl⟩:=hX;simp only [hg];rfl
  | some x=>
   rw [hg] at hX;simp only [Prod.mk.injEq] at hX;obtain ⟨rfl,rfl⟩:=hX;simp only [hg];rfl
 show Calls Tryz.prog 134 #[.pointer (some ⟨p,0,none⟩),.agg #[.int .i64 5,.int .u32 tag,.int .u32 id,.int .i64 seat,.int .i64 ttl]] w _
 have N:=new2 w (.cells #[.int .i64 5,.int .u32 tag,.int .u32 id,.int .i64 seat,.int .i64 ttl] 48) (.cells #[.int .u32 0,.int .i64 0,.int .i64 0,.int .u32 0,.int .i64 0,.int .i64 0,.int .i64 0] 50);obtain ⟨W,hW⟩:∃W,(w.alloc (.cells #[.int .i64 5,.int .u32 tag,.int .u32 id,.int .i64 seat,.int .i64 ttl] 48)).alloc (.cells #[.int .u32 0,.int .i64 0,.int .i64 0,.int .u32 0,.int .i64 0,.int .i64 0,.int .i64 0] 50)=W:=⟨_,rfl⟩;rw [hW] at N;have HN:=hid N;have HW:=hid hW;have HSH:=hid (kshape p F K b W (h.new N.2.2.2));have HCK:Hid (∀W',Calls Tryz.prog 79 #[.agg #[.int .i64 5,.int .u32 tag,.int .u32 id,.int .i64 seat,.int .i64 ttl]] W' fun e w'=>e = .returned (.int .i64 0)∧Below W'.heap.size W' w'):=hid (fun W'=>reqcheck_any ⟨5,tag,id,seat,ttl⟩ hq W');have hb0:¬((b.s:Int)=0):=by have:=hs.hs;omega
 have HFL:=hid h.flt;have HB:=hid h;have HCON:=hid (fun W' (hb:Below w.heap.size w W')=>kget p F K b id W' (h.new hb) hq.id);rw [hX] at HCON;unfold boV at HCON;dsimp only at HCON;have HANS:=hid hans;clear N hW h hs hq hans;go_enter Tryz.func134,Tryz.ntmps134;go_wp2_with fail;rw [HW.out];refine HSH.out.mono ?_;rintro e w1 ⟨rfl,hb1⟩;have HBW1:Hid (Below w.heap.size w w1):=hid (HN.out.2.2.2.trans (hb1.mono HN.out.2.2.2.size));have eA:=Bl.blk hb1 HN.out.1;have EB:=hid (Bl.blk hb1 HN.out.2.1);have EA:=hid eA;obtain ⟨q0,_,q1,_,q2,_,q3,_,q4,_⟩:=cells5 eA;clear eA hb1;go_wp2_with fail;refine (HCK.out _).mono ?_;rintro e w2 ⟨rfl,hb2⟩;have eA:=Bl.blk hb2 EA.out;have eB:=Bl.blk hb2 EB.out;have hbw2:=HBW1.out.trans (hb2.mono HBW1.out.size);obtain ⟨A,hA⟩:∃A,w2.heap.size=A:=⟨_,rfl⟩;have N3:=new2 w2 (.cells #[.int .u32 tag,.int .i64 5,.int .i64 0,.int .u32 0,.int .i64 0,.int .i64 0,.int .i64 0] 50) (.cells #[.int .u32 0,.int .i64 0,.int .i64 0] 160);obtain ⟨W3,hW3⟩:∃W3,(w2.alloc (.cells #[.int .u32 tag,.int .i64 5,.int .i64 0,.int .u32 0,.int .i64 0,.int .i64 0,.int .i64 0] 50)).alloc (.cells #[.int .u32 0,.int .i64 0,.int .i64 0] 160)=W3:=⟨_,rfl⟩;rw [hW3] at N3;have HW3:=hid hW3;have hbw3:=hbw2.trans (N3.2.2.2.mono hbw2.size);have eA3:=Bl.blk N3.2.2.2 eA;have eB3:=Bl.blk N3.2.2.2 eB;have hlA:w.heap.size+1<A:=by have:=heap_lt eB;omega
 rw [hA] at N3;have HA:=hid hA;have HN3:=hid N3;have HBW3:=hid hbw3;have EB3:=hid eB3;have HLA:=hid hlA;clear q0 q1 q2 q3 q4;obtain ⟨q0,_,q1,_,q2,_,q3,_,q4,_⟩:=cells5 eA;obtain ⟨q0',_,q1',_,q2',_,q3',_,q4',_⟩:=cells5 eA3;have HC:=hid (HCON.out W3 hbw3);clear eA eB hbw2 hb2 hbw3 eA3 eB3 N3 hlA;go_wp2_with fail;refine HC.out.mono ?_;rintro e w4 ⟨rfl,hB4,hk4⟩;have hr4:=hk4.blk HN3.out.1 (fun e=>by have:=HFL.out _ e;have:=HLA.out;omega);have hx4:=hk4.blk HN3.out.2.1 (fun e=>by have:=HFL.out _ e;have:=HLA.out;omega);have ho4:=hk4.blk EB3.out (fun e=>by have:=HFL.out _ e;omega);have HR4:=hid hr4;have HX4:=hid hx4;have HO4:=hid ho4;have HB4:=hid hB4;have HK4:=hid hk4;clear q0 q1 q2 q3 q4 q0' q1' q2' q3' q4';obtain ⟨r0,s0,r1,s1,r2,s2,r3,s3,r4,s4,r5,s5,r6,s6⟩:=cells7 hr4;obtain ⟨v0,u0,v1,u1,v2,u2⟩:=cells3 hx4;clear hr4 hx4 ho4 hB4 hk4;go_wp2_with fail;go_region
 have hkA:=rset3_kp (F:=fun x=>x=A∨x=A+1) (Kp.refl _ w4) (R:=A+1) (Or.inr rfl) (.int .u32 x0) (.int .i64 x1) (.int .i64 x2);have h1:=(rset3_kp (F:=fun x=>x=A+1) (Kp.refl _ w4) (R:=A+1) rfl (.int .u32 x0) (.int .i64 x1) (.int .i64 x2)).blk HR4.out (by omega);have h2:=heap_setCell_same _ A 2 _ 50 (.int .i64 er) h1;have h3:=heap_setCell_same _ A 4 _ 50 (.int .i64 x1) h2;have h4:=heap_setCell_same _ A 5 _ 50 (.int .i64 x2) h3;have hk5:=((hkA.setCell (p:=⟨A,2,none⟩) (Or.inl rfl) (.int .i64 er)).setCell (p:=⟨A,4,none⟩) (Or.inl rfl) (.int .i64 x1)).setCell (p:=⟨A,5,none⟩) (Or.inl rfl) (.int .i64 x2);have ho5:=hk5.blk HO4.out (by have:=HLA.out;omega);have HR5:=hid (heap_drew h4);have HK5:=hid hk5.drew;have HO5:=hid (heap_drew ho5);clear r0 s0 r1 s1 r2 s2 r3 s3 r4 s4 r5 s5 r6 s6 v0 u0 v1 u1 v2 u2 hkA h1 h2 h3 h4 hk5 ho5;generalize (((((((w4.setCell ⟨A+1,0,none⟩ (.int .u32 x0)).setCell ⟨A+1,1,none⟩ (.int .i64 x1)).setCell ⟨A+1,2,none⟩ (.int .i64 x2)).setCell ⟨A,2,none⟩ (.int .i64 er)).setCell ⟨A,4,none⟩ (.int .i64 x1)).setCell ⟨A,5,none⟩ (.int .i64 x2))).drew = W5 at *;obtain ⟨r0,s0,r1,s1,r2,s2,r3,s3,r4,s4,r5,s5,r6,s6⟩:=cells7 HR5.out;have ho:=HO5.out;obtain ⟨o0,p0,o1,p1,o2,p2,o3,p3,o4,p4,o5,p5,o6,p6⟩:=cells7 ho;have HO6:=hid ho;clear ho;go_wp2_with fail;refine bodyPost_ret (results_row2 rfl _ _ _ _ _ _ _ rfl (rset7 HO6.out) Tryz.underlying50 rfl (by kernel_rfl)) rfl ?_;have hk7:=rset7_kp (F:=fun x=>x=w.heap.size+1) (Kp.refl _ W5) rfl (.int .u32 tag) (.int .i64 5) (.int .i64 er) (.int .u32 0) (.int .i64 x1) (.int .i64 x2) (.int .i64 0);refine ⟨by rw [HANS.out];rfl,?_,?_⟩
 ·exact (HB4.out.stay HK5.out (fun x hx e=>by have:=HFL.out x hx;have:=HLA.out;omega)).stay hk7 (fun x hx e=>by have:=HFL.out x hx;omega)
 ·exact (((Kp.of_new HBW3.out).trans HK4.out).then HK5.out (fun x e=>Or.inr (by have:=HLA.out;omega))).then hk7 (fun x e=>Or.inr (by omega))
theorem canswer_6 (p:Nat)(F:Nat→Prop)(K:Nat)(b:Bk)(tag id seat ttl:Nat)(w:World)(h:Bkk w p F K b)(hs:Sound b)(hq:OkRq ⟨6,tag,id,seat,ttl⟩):Calls Tryz.prog 134 #[.pointer (some ⟨p,0,none⟩),.agg (rqC 6 tag id seat ttl)] w (CAns w p F K b ⟨6,tag,id,seat,ttl⟩):=by
 obtain ⟨X,hX⟩:∃X,atA b seat=X:=⟨_,rfl⟩;obtain ⟨⟨x0,x1,x2⟩,er⟩:=X;have hans:rpC (answerQ b ⟨6,tag,id,seat,ttl⟩)=#[.int .u32 tag,.int .i64 6,.int .i64 er,.int .u32 x0,.int .i64 0,.int .i64 x2,.int .i64 0]:=by
  unfold atA at hX;unfold answerQ;rw [if_neg (show ¬(6:Nat)=5 by decide),if_pos rfl];dsimp only;by_cases h1:b.s≤seat
  ·rw [if_pos h1] at hX ⊢;simp only [z,Prod.mk.injEq] at hX;obtain ⟨⟨rfl,rfl,rfl⟩,rfl⟩:=hX;rfl
  ·rw [if_neg h1] at hX ⊢;by_cases h2:held b seat=true
   ·rw [if_pos h2] at hX ⊢;simp only [Prod.mk.injEq] at hX;obtain ⟨e1,rfl⟩:=hX;rw [e1];rfl
   ·rw [if_neg h2] at hX ⊢;simp only [z,Prod.mk.injEq] at hX;obtain ⟨⟨rfl,rfl,rfl⟩,rfl⟩:=hX;rfl
 show Calls Tryz.prog 134 #[.pointer (some ⟨p,0,none⟩),.agg #[.int .i64 6,.int .u32 tag,.int .u32 id,.int .i64 seat,.int .i64 ttl]] w _
 have N:=new2 w (.cells #[.int .i64 6,.int .u32 tag,.int .u32 id,.int .i64 seat,.int .i64 ttl] 48) (.cells #[.int .u32 0,.int .i64 0,.int .i64 0,.int .u32 0,.int .i64 0,.int .i64 0,.int .i64 0] 50);obtain ⟨W,hW⟩:∃W,(w.alloc (.cells #[.int .i64 6,.int .u32 tag,.int .u32 id,.int .i64 seat,.int .i64 ttl] 48)).alloc (.cells #[.int .u32 0,.int .i64 0,.int .i64 0,.int .u32 0,.int .i64 0,.int .i64 0,.int .i64 0] 50)=W:=⟨_,rfl⟩;rw [hW] at N;have HN:=hid N;have HW:=hid hW;have HSH:=hid (kshape p F K b W (h.new N.2.2.2));have HCK:Hid (∀W',Calls Tryz.prog 79 #[.agg #[.int .i64 6,.int .u32 tag,.int .u32 id,.int .i64 seat,.int .i64 ttl]] W' fun e w'=>e = .returned (.int .i64 0)∧Below W'.heap.size W' w'):=hid (fun W'=>reqcheck_any ⟨6,tag,id,seat,ttl⟩ hq W');have hb0:¬((b.s:Int)=0):=by have:=hs.hs;omega
 have HFL:=hid h.flt;have HB:=hid h;have HCON:=hid (fun W' (hb:Below w.heap.size w W')=>(kat p F K b seat W' (h.new hb)).mono (R':=fun e w'=>e = .returned (.tuple #[boV (atA b seat).1,.int .i64 ((atA b seat).2:Int)])∧Bkk w' p F K b∧Kp F W' w') (fun e w' h9=>⟨h9.1,(h.new hb).new h9.2,Kp.of_new h9.2⟩));rw [hX] at HCON;unfold boV at HCON;dsimp only at HCON;have HANS:=hid hans;clear N hW h hs hq hans;go_enter Tryz.func134,Tryz.ntmps134;go_wp2_with fail;rw [HW.out];refine HSH.out.mono ?_;rintro e w1 ⟨rfl,hb1⟩;have HBW1:Hid (Below w.heap.size w w1):=hid (HN.out.2.2.2.trans (hb1.mono HN.out.2.2.2.size));have eA:=Bl.blk hb1 HN.out.1;have EB:=hid (Bl.blk hb1 HN.out.2.1);have EA:=hid eA;obtain ⟨q0,_,q1,_,q2,_,q3,_,q4,_⟩:=cells5 eA;clear eA hb1;go_wp2_with fail;refine (HCK.out _).mono ?_;rintro e w2 ⟨rfl,hb2⟩;have eA:=Bl.blk hb2 EA.out;have eB:=Bl.blk hb2 EB.out;have hbw2:=HBW1.out.trans (hb2.mono HBW1.out.size);obtain ⟨A,hA⟩:∃A,w2.heap.size=A:=⟨_,rfl⟩;have N3:=new2 w2 (.cells #[.int .u32 tag,.int .i64 6,.int .i64 0,.int .u32 0,.int .i64 0,.int .i64 0,.int .i64 0] 50) (.cells #[.int .u32 0,.int .i64 0,.int .i64 0] 160);obtain ⟨W3,hW3⟩:∃W3,(w2.alloc (.cells #[.int .u32 tag,.int .i64 6,.int .i64 0,.int .u32 0,.int .i64 0,.int .i64 0,.int .i64 0] 50)).alloc (.cells #[.int .u32 0,.int .i64 0,.int .i64 0] 160)=W3:=⟨_,rfl⟩;rw [hW3] at N3;have HW3:=hid hW3;have hbw3:=hbw2.trans (N3.2.2.2.mono hbw2.size);have eA3:=Bl.blk N3.2.2.2 eA;have eB3:=Bl.blk N3.2.2.2 eB;have hlA:w.heap.size+1<A:=by have:=heap_lt eB;omega
 rw [hA] at N3;have HA:=hid hA;have HN3:=hid N3;have HBW3:=hid hbw3;have EB3:=hid eB3;have HLA:=hid hlA;clear q0 q1 q2 q3 q4;obtain ⟨q0,_,q1,_,q2,_,q3,_,q4,_⟩:=cells5 eA;obtain ⟨q0',_,q1',_,q2',_,q3',_,q4',_⟩:=cells5 eA3;have HC:=hid (HCON.out W3 hbw3);clear eA eB hbw2 hb2 hbw3 eA3 eB3 N3 hlA;go_wp2_with fail;refine HC.out.mono ?_;rintro e w4 ⟨rfl,hB4,hk4⟩;have hr4:=hk4.blk HN3.out.1 (fun e=>by have:=HFL.out _ e;have:=HLA.out;omega);have hx4:=hk4.blk HN3.out.2.1 (fun e=>by have:=HFL.out _ e;have:=HLA.out;omega);have ho4:=hk4.blk EB3.out (fun e=>by have:=HFL.out _ e;omega);have HR4:=hid hr4;have HX4:=hid hx4;have HO4:=hid ho4;have HB4:=hid hB4;have HK4:=hid hk4;clear q0 q1 q2 q3 q4 q0' q1' q2' q3' q4';obtain ⟨r0,s0,r1,s1,r2,s2,r3,s3,r4,s4,r5,s5,r6,s6⟩:=cells7 hr4;obtain ⟨v0,u0,v1,u1,v2,u2⟩:=cells3 hx4;clear hr4 hx4 ho4 hB4 hk4;go_wp2_with fail;go_region
 have hkA:=rset3_kp (F:=fun x=>x=A∨x=A+1) (Kp.refl _ w4) (R:=A+1) (Or.inr rfl) (.int .u32 x0) (.int .i64 x1) (.int .i64 x2);have h1:=(rset3_kp (F:=fun x=>x=A+1) (Kp.refl _ w4) (R:=A+1) rfl (.int .u32 x0) (.int .i64 x1) (.int .i64 x2)).blk HR4.out (by omega);have h2:=heap_setCell_same _ A 2 _ 50 (.int .i64 er) h1;have h3:=heap_setCell_same _ A 3 _ 50 (.int .u32 x0) h2;have h4:=heap_setCell_same _ A 5 _ 50 (.int .i64 x2) h3;have hk5:=((hkA.setCell (p:=⟨A,2,none⟩) (Or.inl rfl) (.int .i64 er)).setCell (p:=⟨A,3,none⟩) (Or.inl rfl) (.int .u32 x0)).setCell (p:=⟨A,5,none⟩) (Or.inl rfl) (.int .i64 x2);have ho5:=hk5.blk HO4.out (by have:=HLA.out;omega);have HR5:=hid (heap_drew h4);have HK5:=hid hk5.drew;have HO5:=hid (heap_drew ho5);clear r0 s0 r1 s1 r2 s2 r3 s3 r4 s4 r5 s5 r6 s6 v0 u0 v1 u1 v2 u2 hkA h1 h2 h3 h4 hk5 ho5;generalize (((((((w4.setCell ⟨A+1,0,none⟩ (.int .u32 x0)).setCell ⟨A+1,1,none⟩ (.int .i64 x1)).setCell ⟨A+1,2,none⟩ (.int .i64 x2)).setCell ⟨A,2,none⟩ (.int .i64 er)).setCell ⟨A,3,none⟩ (.int .u32 x0)).setCell ⟨A,5,none⟩ (.int .i64 x2))).drew = W5 at *;obtain ⟨r0,s0,r1,s1,r2,s2,r3,s3,r4,s4,r5,s5,r6,s6⟩:=cells7 HR5.out;have ho:=HO5.out;obtain ⟨o0,p0,o1,p1,o2,p2,o3,p3,o4,p4,o5,p5,o6,p6⟩:=cells7 ho;have HO6:=hid ho;clear ho;go_wp2_with fail;refine bodyPost_ret (results_row2 rfl _ _ _ _ _ _ _ rfl (rset7 HO6.out) Tryz.underlying50 rfl (by kernel_rfl)) rfl ?_;have hk7:=rset7_kp (F:=fun x=>x=w.heap.size+1) (Kp.refl _ W5) rfl (.int .u32 tag) (.int .i64 6) (.int .i64 er) (.int .u32 x0) (.int .i64 0) (.int .i64 x2) (.int .i64 0);refine ⟨by rw [HANS.out];rfl,?_,?_⟩
 ·exact (HB4.out.stay HK5.out (fun x hx e=>by have:=HFL.out x hx;have:=HLA.out;omega)).stay hk7 (fun x hx e=>by have:=HFL.out x hx;omega)
 ·exact (((Kp.of_new HBW3.out).trans HK4.out).then HK5.out (fun x e=>Or.inr (by have:=HLA.out;omega))).then hk7 (fun x e=>Or.inr (by omega))
theorem canswer_10 (p:Nat)(F:Nat→Prop)(K:Nat)(b:Bk)(tag id seat ttl:Nat)(w:World)(h:Bkk w p F K b)(hs:Sound b)(hq:OkRq ⟨10,tag,id,seat,ttl⟩):Calls Tryz.prog 134 #[.pointer (some ⟨p,0,none⟩),.agg (rqC 10 tag id seat ttl)] w (CAns w p F K b ⟨10,tag,id,seat,ttl⟩):=by
 have hans:rpC (answerQ b ⟨10,tag,id,seat,ttl⟩)=#[.int .u32 tag,.int .i64 10,.int .i64 0,.int .u32 0,.int .i64 0,.int .i64 0,.int .i64 (nT b.l:Int)]:=rfl;show Calls Tryz.prog 134 #[.pointer (some ⟨p,0,none⟩),.agg #[.int .i64 10,.int .u32 tag,.int .u32 id,.int .i64 seat,.int .i64 ttl]] w _
 have N:=new2 w (.cells #[.int .i64 10,.int .u32 tag,.int .u32 id,.int .i64 seat,.int .i64 ttl] 48) (.cells #[.int .u32 0,.int .i64 0,.int .i64 0,.int .u32 0,.int .i64 0,.int .i64 0,.int .i64 0] 50);obtain ⟨W,hW⟩:∃W,(w.alloc (.cells #[.int .i64 10,.int .u32 tag,.int .u32 id,.int .i64 seat,.int .i64 ttl] 48)).alloc (.cells #[.int .u32 0,.int .i64 0,.int .i64 0,.int .u32 0,.int .i64 0,.int .i64 0,.int .i64 0] 50)=W:=⟨_,rfl⟩;rw [hW] at N;have HN:=hid N;have HW:=hid hW;have HSH:=hid (kshape p F K b W (h.new N.2.2.2));have HCK:Hid (∀W',Calls Tryz.prog 79 #[.agg #[.int .i64 10,.int .u32 tag,.int .u32 id,.int .i64 seat,.int .i64 ttl]] W' fun e w'=>e = .returned (.int .i64 0)∧Below W'.heap.size W' w'):=hid (fun W'=>reqcheck_any ⟨10,tag,id,seat,ttl⟩ hq W');have hb0:¬((b.s:Int)=0):=by have:=hs.hs;omega
 have HFL:=hid h.flt;have HB:=hid h;have HCON:=hid (fun W' (hb:Below w.heap.size w W')=>klen p F K b W' (h.new hb));have HANS:=hid hans;clear N hW h hs hq hans;go_enter Tryz.func134,Tryz.ntmps134;go_wp2_with fail;rw [HW.out];refine HSH.out.mono ?_;rintro e w1 ⟨rfl,hb1⟩;have HBW1:Hid (Below w.heap.size w w1):=hid (HN.out.2.2.2.trans (hb1.mono HN.out.2.2.2.size));have eA:=Bl.blk hb1 HN.out.1;have EB:=hid (Bl.blk hb1 HN.out.2.1);have EA:=hid eA;obtain ⟨q0,_,q1,_,q2,_,q3,_,q4,_⟩:=cells5 eA;clear eA hb1;go_wp2_with fail;refine (HCK.out _).mono ?_;rintro e w2 ⟨rfl,hb2⟩;have eA:=Bl.blk hb2 EA.out;have eB:=Bl.blk hb2 EB.out;have hbw2:=HBW1.out.trans (hb2.mono HBW1.out.size);obtain ⟨A,hA⟩:∃A,w2.heap.size=A:=⟨_,rfl⟩;have N3:=new2 w2 (.cells #[.int .u32 tag,.int .i64 10,.int .i64 0,.int .u32 0,.int .i64 0,.int .i64 0,.int .i64 0] 50) (.cells #[.int .u32 0,.int .i64 0,.int .i64 0] 160);obtain ⟨W3,hW3⟩:∃W3,(w2.alloc (.cells #[.int .u32 tag,.int .i64 10,.int .i64 0,.int .u32 0,.int .i64 0,.int .i64 0,.int .i64 0] 50)).alloc (.cells #[.int .u32 0,.int .i64 0,.int .i64 0] 160)=W3:=⟨_,rfl⟩;rw [hW3] at N3;have HW3:=hid hW3;have hbw3:=hbw2.trans (N3.2.2.2.mono hbw2.size);have eA3:=Bl.blk N3.2.2.2 eA;have eB3:=Bl.blk N3.2.2.2 eB;have hlA:w.heap.size+1<A:=by have:=heap_lt eB;omega
 rw [hA] at N3;have HA:=hid hA;have HN3:=hid N3;have HBW3:=hid hbw3;have EB3:=hid eB3;have HLA:=hid hlA;clear q0 q1 q2 q3 q4;obtain ⟨q0,_,q1,_,q2,_,q3,_,q4,_⟩:=cells5 eA;obtain ⟨q0',_,q1',_,q2',_,q3',_,q4',_⟩:=cells5 eA3;have HC:=hid (HCON.out W3 hbw3);clear eA eB hbw2 hb2 hbw3 eA3 eB3 N3 hlA;go_wp2_with fail;refine HC.out.mono ?_;rintro e w4 ⟨rfl,rfl⟩;have hr4:=HN3.out.1;clear q0 q1 q2 q3 q4 q0' q1' q2' q3' q4';obtain ⟨r0,s0,r1,s1,r2,s2,r3,s3,r4,s4,r5,s5,r6,s6⟩:=cells7 hr4;have ho:=EB3.out;obtain ⟨o0,p0,o1,p1,o2,p2,o3,p3,o4,p4,o5,p5,o6,p6⟩:=cells7 ho;have HO6:=hid ((Kp.setCell (F:=fun x=>x=A) (Kp.refl _ W3) (p:=⟨A,6,none⟩) rfl (.int .i64 (nT b.l:Int))).blk ho (by have:=HLA.out;omega));have hne:¬A=w.heap.size+1:=by have:=HLA.out;omega
 clear hr4 ho;go_wp2_with fail;refine bodyPost_ret (results_row2 rfl _ _ _ _ _ _ _ rfl (rset7 HO6.out) Tryz.underlying50 rfl (by kernel_rfl)) rfl ?_;have hk6:=Kp.setCell (F:=fun x=>x=A) (Kp.refl _ W3) (p:=⟨A,6,none⟩) rfl (.int .i64 (nT b.l:Int));have hk7:=rset7_kp (F:=fun x=>x=w.heap.size+1) (Kp.refl _ (W3.setCell ⟨A,6,none⟩ (.int .i64 (nT b.l:Int)))) rfl (.int .u32 tag) (.int .i64 10) (.int .i64 0) (.int .u32 0) (.int .i64 0) (.int .i64 0) (.int .i64 (nT b.l:Int));refine ⟨by rw [HANS.out];rfl,?_,?_⟩
 ·exact ((HB.out.new HBW3.out).stay hk6 (fun x hx e=>by have:=HFL.out x hx;have:=HLA.out;omega)).stay hk7 (fun x hx e=>by have:=HFL.out x hx;omega)
 ·exact ((Kp.of_new HBW3.out).then hk6 (fun x e=>Or.inr (by have:=HLA.out;omega))).then hk7 (fun x e=>Or.inr (by omega))
theorem canswer_any (p:Nat)(F:Nat→Prop)(K:Nat)(b:Bk)(q:Rq)(w:World)(h:Bkk w p F K b)(hs:Sound b)(hq:OkRq q)(hk:isAsk q.k):Calls Tryz.prog 134 #[.pointer (some ⟨p,0,none⟩),.agg (rqC q.k q.tag q.id q.seat q.ttl)] w (CAns w p F K b q):=by
 obtain ⟨k,tag,id,seat,ttl⟩:=q;dsimp only at hk;rcases hk with rfl | rfl | rfl
 ·exact canswer_5 p F K b tag id seat ttl w h hs hq
 ·exact canswer_6 p F K b tag id seat ttl w h hs hq
 ·exact canswer_10 p F K b tag id seat ttl w h hs hq
end
end Go.Proofs.YtdjiopacieadpaaGreatDoor
