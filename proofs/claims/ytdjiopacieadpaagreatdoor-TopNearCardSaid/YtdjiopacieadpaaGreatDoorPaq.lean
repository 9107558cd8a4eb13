/- TopNear: part Paq: BkU BkV RfB RfC. -/
import Derived.Test.YtdjiopacieadpaaGreatDoorPap
import Derived.RangeFuncBound
set_option linter.unusedVariables false
set_option linter.unusedSimpArgs false
set_option maxRecDepth 8000
set_option maxHeartbeats 8000000
namespace Go.Proofs.YtdjiopacieadpaaGreatDoor
section
open Go.RowKit BookPlain
def Rb (w:World)(v:Value)(L:List Bo):Prop:= ∃oa cap,v = .slice oa L.length cap∧ ∀(i:Nat) (x:Bo),L[i]?=some x→ ∃g,oa=some ⟨g,0,none⟩∧g<w.heap.size∧w.cell? ⟨g,i*3,none⟩=some (.int .u32 x.1)∧w.cell? ⟨g,i*3+1,none⟩=some (.int .i64 x.2.1)∧w.cell? ⟨g,i*3+2,none⟩=some (.int .i64 x.2.2)
theorem Rb.below {w w':World}{v:Value}{L:List Bo}(h:Rb w v L){B:Nat}(hb:Below B w w')(hB:w.heap.size≤B):Rb w' v L:=by
 obtain ⟨oa,cap,rfl,h⟩:=h;refine ⟨oa,cap,rfl,fun i x hx=>?_⟩;obtain ⟨g,e,hg,h0,h1,h2⟩:=h i x hx;exact ⟨g,e,Nat.lt_of_lt_of_le hg hb.size,(hb.cell (p:=⟨g,_,none⟩) (by dsimp only;omega)).trans h0,(hb.cell (p:=⟨g,_,none⟩) (by dsimp only;omega)).trans h1,(hb.cell (p:=⟨g,_,none⟩) (by dsimp only;omega)).trans h2⟩
theorem Rb.of_own {w:World}{base:Nat}{v:Value}{L:List Bo}(h:w.ownsRow base 160 3 v L.length (L.flatMap boC)):Rb w v L:=by
 rcases h.2 with ⟨rfl,h0⟩ | ⟨g,cap,cur,rfl,hb,hg,h1,h2,h3,h4⟩
 ·refine ⟨none,0,by rw [h0],fun i x hx=>?_⟩;rw [List.eq_nil_of_length_eq_zero h0] at hx;cases hx
 ·refine ⟨_,cap,rfl,fun i x hx=>⟨g,rfl,heap_lt hg,?_⟩⟩;have hil:=(List.getElem?_eq_some_iff.1 hx).1;have get:∀j,j<3→w.cell? ⟨g,i*3+j,none⟩=(boC x)[j]? :=by
   intro j hj;rw [(blk hg).1 (i*3+j)];have e:cur[i*3+j]?=(cur.toList.take (L.length*3))[i*3+j]? :=by
    rw [List.getElem?_take,if_pos (by omega)];simp
   rw [e,h4,boC_get L i j hj,hx];rfl
  exact ⟨get 0 (by omega),get 1 (by omega),get 2 (by omega)⟩
def BOf (w:World)(b:Bk)(e:Ending)(w':World):Prop:= ∃p F,e = .returned (.tuple #[.pointer (some ⟨p,0,none⟩),.int .i64 0])∧Bkk w' p F 48 b∧(∀x,F x→w.heap.size≤x)∧Below w.heap.size w w'
def lastId (b:Bk)(k:Nat):Nat:=match k with | 0=>0 | k+1=>(((listB b)[k]?).getD z).1
def Ofl (w w2:World)(b:Bk)(p k:Nat)(wr:World):Prop:= ∃m,Bw wr m∧Rl m (BookPlain.part b k)∧m.p=p∧(∀x,m.F x→w.heap.size≤x)∧m.T≤k∧Below w.heap.size w wr
theorem bof_any (b:Bk)(hs:Sound b)(v:Value)(w:World)(hv:Rb w v (listB b)):Calls Tryz.prog 111 #[.agg #[.int .i64 b.s,.int .i64 b.c,.int .i64 b.g],.int .u32 b.next,.int .i64 b.clock,v] w (BOf w b):=by
 have N:=new1 w (.cells #[.int .i64 b.s,.int .i64 b.c,.int .i64 b.g] 23);obtain ⟨x0,_,x1,_,x2,_⟩:=cells3 N.1;have HN:=hid N;have HNW:=hid (bknew_any b.s b.c b.g (w.alloc (.cells #[.int .i64 b.s,.int .i64 b.c,.int .i64 b.g] 23)) hs.hs hs.hc hs.hg);have HV:=hid hv;have HS:=hid hs;obtain ⟨oa,cap,rfl,_⟩:=hv;have hln:(listB b).length = nT b.l:=listL_len _;have HLN:=hid hln;rw [hln];have hfew:=hs.few;have hc24:=hs.hc.2;have hM:M=1099511627776:=rfl;have d1:decide ((b.next:Int)<1)=false:=by have:=hs.hn;simp;omega
 have d2:decide ((b.clock:Int)<0)=false:=by simp
 have d3:decide ((b.clock:Int)>1099511627776)=false:=by have:=hs.hk;simp;omega
 have d4:¬b.c<nT b.l:=by omega
 have d5:decide (b.c<nT b.l)=false:=by simp;omega
 have d6:decide (1099511627776<b.clock)=false:=by have:=hs.hk;simp;omega
 have d7:decide (b.next<1)=false:=by have:=hs.hn;simp;omega
 clear N hs hM;generalize hAe:w.heap.size=A at *;have HAE:=hid hAe;clear hAe;go_enter Tryz.func111,Tryz.ntmps111;go_wp2_with fail;rw [HAE.out];generalize w.alloc (.cells #[.int .i64 b.s,.int .i64 b.c,.int .i64 b.g] 23)=W at *;refine HNW.out.mono ?_;rintro e w2 ⟨p,F,rfl,hB,hF,hb2⟩;have hX:=Bl.blk hb2 HN.out.1;obtain ⟨m,hw,hr,rfl,rfl,hT⟩:=hB;have hn1:=hw.nxtTo b.next;have hq1:=hn1.1.clkTo b.clock;have hr1:=(hr.next b.next).clock b.clock;have hk1:=hn1.2.trans hq1.2;obtain ⟨c4,f4,c5,f5⟩:w2.cell? ⟨m.p,4,none⟩=some (.int .i64 m.q)∧w2.frozen? ⟨m.p,4,none⟩=false∧w2.cell? ⟨m.p,5,none⟩=some (.int .u32 m.nx)∧w2.frozen? ⟨m.p,5,none⟩=false:=⟨hw.hc.c4,hw.hc.f4,hw.hc.c5,hw.hc.f5⟩;clear x0 x1 x2;obtain ⟨x0,_,x1,_,x2,_⟩:=cells3 hX;go_wp2_with fail;have hST:Ofl w w2 b m.p 0 ((w2.setCell ⟨m.p,5,none⟩ (.int .u32 b.next)).setCell ⟨m.p,4,none⟩ (.int .i64 b.clock)):=
  ⟨_,hq1.1,hr1,rfl,fun x hx=>by have:=hF x hx;have:=HN.out.2.1;have:=HAE.out;omega,by have:=hT;dsimp only at this ⊢;omega,by rw [HAE.out];exact (HN.out.2.2.trans (hb2.mono (by have:=HN.out.2.1;omega))).trans (hk1.below (by have:=hb2.size;have:=HN.out.2.1;omega) (fun y e=>by have e':y=m.p:=e;have:=hF m.p (Or.inl rfl);have:=HN.out.2.1;omega))⟩
 have HST:=hid hST;clear hw hr hT hF hn1 hq1 hr1 hk1 hST hX hb2 c4 f4 c5 f5 x0 x1 x2;generalize (w2.setCell ⟨m.p,5,none⟩ (.int .u32 b.next)).setCell ⟨m.p,4,none⟩ (.int .i64 b.clock)=W3 at *;generalize m.p=P at *;clear m;clear d1 d2 d3 d4 d5 d6 d7;go_loopw [12,50] (fun s12 s50 wr=> ∃k:Nat,s12 = .int .u32 (lastId b k:Int)∧s50 = .int .i64 k∧k≤nT b.l∧Ofl w w2 b P k wr) (fun _ s50 _=>nT b.l-(intOf s50).toNat)
 case atStart=>exact ⟨0,rfl,rfl,Nat.zero_le _,HST.out⟩
 case round=>
  obtain ⟨k,rfl,rfl,hk,m,hw,hr,rfl,hF,hT,hb⟩:=hrel;by_cases hlt:k<nT b.l
  ·have hkI:(k:Int)<(nT b.l:Int):=by omega
   have hx:=List.getElem?_eq_getElem (l:=listB b) (i:=k) (by rw [HLN.out];exact hlt);generalize (listB b)[k]'(by rw [HLN.out];exact hlt)=x at hx;obtain ⟨xi,xs,xu⟩:=x;obtain ⟨f1,f2,f3⟩:=part_free HS.out.toFine hx;obtain ⟨q1,q2,q3,q4⟩:=listB_seat HS.out.toFine (List.mem_of_getElem? hx);obtain ⟨r1,r2⟩:=part_fine HS.out.toFine k;have hsd:=HS.out.all xs _ q1 q3;dsimp only at f1 f2 f3 q1 q2 q3 q4 hsd;have hpf:=putB_fine (x:=(xi,xs,xu)) r1 q2 q4 q3 f2 (by rw [r2];show min k (nT b.l)<b.c;omega);obtain ⟨oa',cap',eoa,hcells⟩:=HV.out.below hb (by have:=HAE.out;omega);injection eoa with e1 e2 e3;subst e1 e3;obtain ⟨gr,rfl,hgr,z0,z1,z2⟩:=hcells k _ hx;dsimp only at z0 z1 z2;have hlast:lastId b k<xi:=by
    cases k with
    | zero=>show 0<xi;omega
    | succ k'=>
     have hy:=List.getElem?_eq_getElem (l:=listB b) (i:=k') (by rw [HLN.out];omega);show (((listB b)[k']?).getD z).1<xi
     rw [hy];exact f3 _ (List.mem_of_getElem? (i:=k') (by rw [List.getElem?_take,if_pos (by omega)];exact hy))
   have hbq:m.W.testBit xs=false:=by
    rw [hr.W xs q2];unfold held;rw [f1];rfl
   have hid9:xi<4294967296:=by
    rcases q4 with e | ⟨_,e,_⟩
    ·injection e with e _;exact absurd e q3
    ·exact e
   have hM:xu≤M:=by
    rcases q4 with e | ⟨_,_,_,e⟩
    ·injection e with e _;exact absurd e q3
    ·exact e
   have N1:=new1 wr (.cells #[.int .u32 xi,.int .i64 xs,.int .i64 xu] 160);have hw1:=hw.new N1.2.2;have HMY:=hid (bmay_yes m xi xs xu (lastId b k) _ hw1 hlast (by rw [hr.nx];exact hsd.1) (by rw [hr.s];exact q2) hbq (by rw [hr.q];rcases hsd.2 with e | e;exact Or.inl e;exact Or.inr ⟨e,hM⟩));obtain ⟨y0,_,y1,_,y2,_⟩:=cells3 N1.1;have HN1:=hid N1;have HWF:=hid hw.flt;have HW1:=hid hw1;have HR:=hid hr;have HFF:=hid hF;have HTB:=hid (And.intro hT hb);have HP:=hid (And.intro f1 (And.intro f2 (And.intro q2 (And.intro q3 (And.intro hpf r2)))));have HX:=hid hx;clear hw hr hF hT hb hx f1 f2 f3 q1 q2 q3 q4 r1 r2 hsd hpf hcells hlast hbq hM N1 hw1 hlt;go_wp2_with fail;refine HMY.out.mono ?_;rintro e w5 ⟨rfl,hb5⟩;have hX5:=Bl.blk hb5 HN1.out.1;clear y0 y1 y2;obtain ⟨y0,_,y1,_,y2,_⟩:=cells3 hX5;have hw5:=HW1.out.new hb5;have HPU:=hid (bputx_any m (uB (BookPlain.part b k)) xi xs xu w5 hw5 HR.out.lk hid9 (by have:=HTB.out.1;omega) (HR.out.noOf HP.out.2.1).1 (by rw [HR.out.s];exact HP.out.2.2.1) (by rw [HR.out.ln,HR.out.c,HP.out.2.2.2.2.2];show min k (nT b.l)<b.c;omega) (HR.out.noOf HP.out.2.1).2);have HX5:=hid hX5;have HB5:Hid (Below w.heap.size w w5):=hid (HTB.out.2.trans ((HN1.out.2.2.trans (hb5.mono HN1.out.2.2.size)).mono HTB.out.2.size));have hwr5:=(HN1.out.2.2.trans (hb5.mono HN1.out.2.2.size)).size;have HWR5:=hid hwr5;have HFL5:=hid hw5.flt;clear hb5 hX5 hw5 hwr5;go_wp2_with fail;refine HPU.out.mono ?_;rintro e w6 ⟨rfl,Fh',L',T',H',F',hB6,hL6,hT6,hT7,hF6,hst⟩;have hX6:=hst.kp.blk HX5.out (fun e=>by have:=HWF.out _ e;omega);clear y0 y1 y2;obtain ⟨y0,_,y1,_,y2,_⟩:=cells3 hX6;have hr6:=HR.out.put (x:=(xi,xs,xu)) HP.out.2.2.1 HP.out.1 HP.out.2.2.2.1 HP.out.2.2.2.2.1 hL6 (Fh':=Fh') (T':=T');have hO:Ofl w w2 b m.p (k+1) w6:=by
    refine ⟨_,hB6,?_,rfl,?_,?_,?_⟩
    ·rw [part_next HX.out];exact hr6
    ·intro x hx;rcases hst.sub x ((hF6 x).2 hx) with e | e
     ·exact HFF.out x e
     ·exact Nat.le_trans HB5.out.size e
    ·dsimp only;have:=HTB.out.1;omega
    ·exact HB5.out.trans (hst.kp.below HB5.out.size HFF.out)
   have HO:=hid hO;have hli:lastId b (k+1)=xi:=by show (((listB b)[k]?).getD z).1=xi;rw [HX.out];rfl
   have HLI:=hid hli;clear hB6 hL6 hT6 hT7 hF6 hst hX6 hr6 hO hli;go_wp2_with fail;go_roundw;case rel=>exact ⟨k+1,by rw [HLI.out],by go_num,by omega,HO.out⟩
   case measure=>simp [intOf];omega
  ·have hkI:¬(k:Int)<(nT b.l:Int):=by omega
   have hkn:k=nT b.l:=by omega
   subst hkn;rw [part_all HS.out.toFine] at hr;have hE:BOf w b (.returned (.tuple #[.pointer (some ⟨m.p,0,none⟩),.int .i64 0])) wr:=⟨m.p,m.F,rfl,⟨m,hw,hr,rfl,rfl,by omega⟩,hF,hb⟩;have HE:=hid hE;clear hw hr hF hT hb hE hlt;go_wp2_with fail;go_ret2;exact HE.out
def BCopy (w:World)(b:Bk)(e:Ending)(w':World):Prop:= ∃p F,e = .returned (.pointer (some ⟨p,0,none⟩))∧Bkk w' p F 48 b∧(∀x,F x→w.heap.size≤x)∧Below w.heap.size w w'
theorem bcopy_any (p:Nat)(F:Nat→Prop)(K:Nat)(b:Bk)(w:World)(h:Bkk w p F K b)(hs:Sound b):Calls Tryz.prog 59 #[.pointer (some ⟨p,0,none⟩)] w (BCopy w b):=by
 obtain ⟨m,hw,hr,rfl,rfl,hT⟩:=h;have c0:=hw.hc.c0;have c1:=hw.hc.c1;have c2:=hw.hc.c2;have c4:=hw.hc.c4;have c5:=hw.hc.c5;rw [hr.s] at c0;rw [hr.c] at c1;rw [hr.g] at c2;rw [hr.q] at c4;rw [hr.nx] at c5;have HT:=hid (there_any m w hw.hc);have HW:=hid hw;have HR:=hid hr;have HS:=hid hs;have hpl:=heap_lt hw.hd;have HLI:=hid (blist_any m b w.drew (hw.new (Below.refl _ _).drew) hr);clear hw hr hT hs;generalize hp:m.p=P at *;have HP:=hid hp;clear hp;go_enter Tryz.func59,Tryz.ntmps59;go_wp2_with fail;refine HT.out.mono ?_;rintro e w' ⟨rfl,rfl⟩;go_wp2_with fail;go_region_held_law (fun w'=>w'.cell? ⟨P,0,none⟩=some (.int .i64 b.s)∧w'.cell? ⟨P,1,none⟩=some (.int .i64 b.c)∧w'.cell? ⟨P,2,none⟩=some (.int .i64 b.g)∧w'.cell? ⟨P,4,none⟩=some (.int .i64 b.clock)∧w'.cell? ⟨P,5,none⟩=some (.int .u32 b.next)) (first | assumption | go_keep)
  (
   first
   | (
    go_at_call 116;refine HLI.out.mono ?_
    rintro e w3 ⟨v,rfl,ho,hb⟩;have hrb:Rb w3 v (listB b):=Rb.of_own (by rw [show (listB b).length = nT b.l from listL_len _];exact ho);have HRB:=hid hrb;have HB3:=hid (show Below w.heap.size w w3 from (Below.refl w.heap.size w).drew.trans hb);have e0:=(hb.cell (p:=⟨P,0,none⟩) hpl).trans c0;have e1:=(hb.cell (p:=⟨P,1,none⟩) hpl).trans c1;have e2:=(hb.cell (p:=⟨P,2,none⟩) hpl).trans c2;have e4:=(hb.cell (p:=⟨P,4,none⟩) hpl).trans c4;have e5:=(hb.cell (p:=⟨P,5,none⟩) hpl).trans c5;clear ho hb hrb)
   | (
    go_at_call 111;refine (bof_any b HS.out _ _ HRB.out).mono ?_
    rintro e w5 ⟨p5,F5,rfl,hB5,hF5,hb5⟩;have HE:Hid (BCopy w b (.returned (.pointer (some ⟨p5,0,none⟩))) w5):=hid ⟨p5,F5,rfl,hB5,fun x hx=>Nat.le_trans HB3.out.size (hF5 x hx),HB3.out.trans (hb5.mono HB3.out.size)⟩;have g0:=(hb5.cell (p:=⟨P,0,none⟩) (Nat.lt_of_lt_of_le hpl HB3.out.size)).trans e0;have g1:=(hb5.cell (p:=⟨P,1,none⟩) (Nat.lt_of_lt_of_le hpl HB3.out.size)).trans e1;have g2:=(hb5.cell (p:=⟨P,2,none⟩) (Nat.lt_of_lt_of_le hpl HB3.out.size)).trans e2;have g4:=(hb5.cell (p:=⟨P,4,none⟩) (Nat.lt_of_lt_of_le hpl HB3.out.size)).trans e4;have g5:=(hb5.cell (p:=⟨P,5,none⟩) (Nat.lt_of_lt_of_le hpl HB3.out.size)).trans e5;clear hB5 hF5 hb5))
 all_goals
  go_wp2_with fail;go_ret;exact HE.out
def Kz (B:Nat→Prop)(W W':World):Prop:= ∀k,B k→W'.heap[k]?=W.heap[k]?
theorem Kz.trans {B:Nat→Prop}{a b c:World}(h:Kz B a b)(k:Kz B b c):Kz B a c:=fun i hi=>(k i hi).trans (h i hi)
theorem Kz.put {B:Nat→Prop}{w:World}(hB:∀k,B k→k<w.heap.size)(W:World)(l:Nat)(o o':Obj)(hl:w.heap.size≤l)(h:W.heap[l]?=some o)(_:o.isCells=false)(_:o.isWalk=false):Kz B W (W.putObj l o'):=fun k hk=>by
 have:=hB k hk;unfold World.putObj;simp [Array.getElem?_setIfInBounds,show l≠k by omega]
def boE (x:Bo):Array Value:=#[.agg #[.int .u32 x.1,.int .i64 x.2.1,.int .i64 x.2.2]]
theorem Rb.kz {w w':World}{v:Value}{L:List Bo}(h:Rb w v L)(hs:w.heap.size≤w'.heap.size)(hk:∀k,v.ownBlock=some k→w'.heap[k]?=w.heap[k]?):Rb w' v L:=by
 obtain ⟨oa,cap,rfl,h⟩:=h;refine ⟨oa,cap,rfl,fun i x hx=>?_⟩;obtain ⟨g,rfl,hg,h0,h1,h2⟩:=h i x hx;have hb:=hk g rfl;exact ⟨g,rfl,by omega,(World.cell?_of_block (w:=w) (a:=⟨g,_,none⟩) hb).trans h0,(World.cell?_of_block (w:=w) (a:=⟨g,_,none⟩) hb).trans h1,(World.cell?_of_block (w:=w) (a:=⟨g,_,none⟩) hb).trans h2⟩
set_option maxRecDepth 100000 in
theorem vals1_in {α:Type}(f:α→Bo)(n l A:Nat)(v:Value)(L:List α)(J Jx:List α→World→Prop)(B:Nat)(hJ:AbidesFrom B J)(hY:∀pre x W1,J pre W1→pre.length<L.length→YieldAt Fence.wide (n-1) Tryz.prog l (boE (f x)) W1 fun e W'=>(e = .returned (.bool true)∧J (pre++[x]) W'∧(Kz (fun k=>k=A∨v.ownBlock=some k) W1 W'∧W1.heap.size≤W'.heap.size))∨(e = .returned (.bool false)∧Jx (pre++[x]) W'))(W:World)(hA:W.heap[A]?=some (Obj.cells #[v] 201 (0,0)))(hR:Rb W v (L.map f))(h0:J [] W)(hL9:L.length≤1000):
 CallsIn Fence.wide n Tryz.prog 166 #[.func (.yield l) #[] #[],.pointer (some ⟨A,0,none⟩)] W fun e W'=>(∃v,e = .returned v)∧((∃xs,xs=L∧J xs W')∨(∃pre,True∧Jx pre W')):=by
 obtain ⟨oa,cap,ev,_⟩:=id hR;have hlm:(L.map f).length = L.length:=List.length_map ..;rw [hlm] at ev;subst ev;refine callsIn_of_wp Tryz.func166 rfl trivial ?_ rfl;simp only [Tryz.ntmps166,List.size_toArray,List.length_cons,List.length_nil,Nat.reduceAdd,Nat.reduceSub,Array.replicate_succ,Array.replicate_zero,List.push_toArray,List.append_toArray,List.nil_append,List.cons_append];obtain ⟨c0,f0⟩:=cells1 hA;have HA:=hid hA;have HR:=hid hR;have HY:=hid hY;have HJ:=hid hJ;have H0:=hid h0;have HLM:=hid hlm;clear hA hR hY hJ h0 hlm;gi_wp2
 gi_loopw [7] (fun i wr=> ∃k:Nat,i = .int .i64 k∧k≤L.length∧J (L.take k) wr∧wr.heap[A]?=some (Obj.cells #[.slice oa L.length cap] 201 (0,0))∧Rb wr (.slice oa L.length cap) (L.map f)) (fun i wr=>L.length-(intOf i).toNat)
 case atStart=>exact ⟨0,rfl,Nat.zero_le _,H0.out,HA.out,HR.out⟩
 case round=>
  obtain ⟨k,rfl,hk,hJk,hA,hR⟩:=hrel;have HA:=hid hA;have HR:=hid hR;have HJk:=hid hJk;by_cases hlt:k<L.length
  ·have hkI:(k:Int)<(L.length:Int):=by omega
   have hLk:=List.getElem?_eq_getElem hlt;obtain ⟨oa',cap',e9,hcells⟩:=id hR;injection e9 with e1 e2 e3;subst e1 e3;clear e2;obtain ⟨g,rfl,hgl,d0,d1,d2⟩:=hcells k (f L[k]) (by rw [List.getElem?_map,hLk];rfl);have HLK:=hid (show L.take (k+1)=L.take k++[L[k]] from by rw [List.take_succ_eq_append_getElem hlt]);generalize hs:L[k]=s at *;obtain ⟨s1,s2,s3,h9⟩:∃s1 s2 s3,f s=(s1,s2,s3):=⟨_,_,_,rfl⟩;rw [h9] at d0 d1 d2;dsimp only at d0 d1 d2;have N:=new1 wr (.cells #[.int .u32 s1,.int .i64 s2,.int .i64 s3] 160);have hJ2:J (L.take k) (wr.alloc (.cells #[.int .u32 s1,.int .i64 s2,.int .i64 s3] 160)):=HJ.out (L.take k) wr _ none hJk (World.grownBy_alloc wr _ none) (fun r e=>by cases e);obtain ⟨fn,tmps,assign,body,hy,hround⟩:=HY.out (L.take k) s _ hJ2 (by rw [List.length_take];omega);rw [h9] at hy;have hy':(Instr.yield l #[.agg #[.int .u32 s1,.int .i64 s2,.int .i64 s3]]).run Tryz.prog (wr.alloc (.cells #[.int .u32 s1,.int .i64 s2,.int .i64 s3] 160))=_:=hy;have HRD:=hid hround;have HA2:=hid (Bl.blk N.2.2 hA);have HR2:=hid (HR.out.below N.2.2 (Nat.le_refl _));obtain ⟨v0,_,v1,_,v2,_⟩:=cells3 N.1;clear h9 hA hR hJk N hJ2 hy hround hLk hlt hs hcells;gi_wp2
   refine ⟨fun e=>by simp [Fence.wide] at e,HRD.out.mono ?_⟩;rintro e W3 (⟨rfl,hJ3,hk3,hs3⟩ | ⟨rfl,hJx3⟩)
   ·have HA3:=hid ((hk3 A (Or.inl rfl)).trans HA2.out);have HR3:=hid (HR2.out.kz hs3 (fun k hk=>hk3 k (Or.inr hk)));have HJ3:=hid hJ3;clear hJ3 hk3 v0 v1 v2 hs3;gi_wp2
    go_roundw;case rel=>exact ⟨k+1,by go_num,by omega,by rw [HLK.out];exact HJ3.out,HA3.out,HR3.out⟩
    case measure=>simp [intOf];omega
   ·have HJX:=hid hJx3;clear hJx3;gi_wp2
    refine bodyPost_ret (results_none rfl _ _ _) rfl ?_;exact ⟨⟨_,rfl⟩,.inr ⟨_,trivial,HJX.out⟩⟩
  ·have hkI:¬(k:Int)<(L.length:Int):=by omega
   clear hA hR hJk;gi_wp2
   go_end0
   have:=HJk.out;rw [List.take_of_length_le (by omega)] at this;exact ⟨⟨_,rfl⟩,Or.inl this⟩
def Kzs (B:Nat→Prop)(W W':World):Prop:=Kz B W W'∧W.heap.size≤W'.heap.size
theorem Kzs.trans {B:Nat→Prop}{a b c:World}(h:Kzs B a b)(k:Kzs B b c):Kzs B a c:=⟨h.1.trans k.1,Nat.le_trans h.2 k.2⟩
theorem Kzs.put {B:Nat→Prop}{w:World}(hB:∀k,B k→k<w.heap.size)(W:World)(l:Nat)(o o':Obj)(hl:w.heap.size≤l)(h:W.heap[l]?=some o)(h1:o.isCells=false)(h2:o.isWalk=false):Kzs B W (W.putObj l o'):=
 ⟨Kz.put hB W l o o' hl h h1 h2,by unfold World.putObj;simp⟩
theorem vals_stops {α:Type}(f:α→Bo)(n A:Nat)(v:Value)(L:List α)(w:World)(hA:w.heap[A]?=some (Obj.cells #[v] 201 (0,0)))(hR:Rb w v (L.map f))(hL9:L.length≤1000):
 SeqStopsK Fence.wide n Tryz.prog 166 #[.pointer (some ⟨A,0,none⟩)] (fun x=>boE (f x)) (Kzs (fun k=>k=A∨v.ownBlock=some k)) (fun xs=>xs=L) (fun _=>True) L.length w:=fun l J Jx W hW hJ _ hY h0=>
 vals1_in f n l A v L J Jx W.heap.size hJ hY W (Bl.blk hW hA) (hR.below hW (Nat.le_refl _)) h0 hL9
def BAll (w:World)(b:Bk)(e:Ending)(w':World):Prop:= ∃A v,e = .returned (.func (.func 166) #[] #[.pointer (some ⟨A,0,none⟩)])∧w.heap.size≤A∧w'.heap[A]?=some (Obj.cells #[v] 201 (0,0))∧Rb w' v (listB b)∧(∀k,v.ownBlock=some k→w.heap.size≤k∧k<w'.heap.size)∧Below w.heap.size w w'
theorem values_any (oa:Option Addr)(n c:Nat)(w:World):Calls Tryz.prog 119 #[.slice oa n c] w fun e w'=>e = .returned (.func (.func 166) #[] #[.pointer (some ⟨w.heap.size,0,none⟩)])∧w'=w.alloc (.cells #[.slice oa n c] 201):=by
 have hmf:∀(w':World),(Instr.makeFunc (Fn.func 166) #[] #[.pointer (some ⟨w.heap.size,0,none⟩)]).run Tryz.prog w' = .ok (.func (.func 166) #[] #[.pointer (some ⟨w.heap.size,0,none⟩)]) w':=fun _=>rfl
 go_enter Tryz.func119,Tryz.ntmps119;go_wp2_with fail;go_ret;exact ⟨rfl,rfl⟩
theorem ball_any (p:Nat)(F:Nat→Prop)(K:Nat)(b:Bk)(w:World)(h:Bkk w p F K b):Calls Tryz.prog 64 #[.pointer (some ⟨p,0,none⟩)] w (BAll w b):=by
 obtain ⟨m,hw,hr,rfl,rfl,hT⟩:=h;have HLI:=hid (blist_any m b w hw hr);clear hw hr hT;generalize m.p=p at *;generalize m.F=F at *;clear m;go_enter Tryz.func64,Tryz.ntmps64;go_wp2_with fail;refine HLI.out.mono ?_;rintro e w2 ⟨v,rfl,ho,hb⟩;have N:=new1 w2 (.cells #[v] 201);obtain ⟨oa,rn,erv,_,_⟩:=own_form ho;subst erv;have hE:BAll w b (.returned (.func (.func 166) #[] #[.pointer (some ⟨w2.heap.size,0,none⟩)])) (w2.alloc (.cells #[.slice oa (nT b.l) rn] 201)):=by
  refine ⟨w2.heap.size,_,rfl,hb.size,N.1,?_,fun k hk=>?_,hb.trans (N.2.2.mono hb.size)⟩
  ·have h1:Rb w2 (.slice oa (nT b.l) rn) (listB b):=Rb.of_own (by rw [show (listB b).length = nT b.l from listL_len _];exact ho);exact h1.below N.2.2 (Nat.le_refl _)
  ·rcases ho.2 with ⟨e,_⟩ | ⟨g,cap,cur,e,hbg,hg,_⟩
   ·rw [e] at hk;cases hk
   ·rw [e] at hk;injection hk with hk;subst hk;exact ⟨hbg,by have h9:g<w2.heap.size:=heap_lt hg;have h8:=N.2.1;show g<_;omega⟩
 have HE:=hid hE;have HV:=hid (values_any oa (nT b.l) rn w2);clear ho hb N hE;go_wp2_with fail;refine HV.out.mono ?_;rintro e w3 ⟨rfl,rfl⟩;go_wp2_with fail;go_ret;exact HE.out
end
section
open Go.RowKit
theorem turned_keep {A B:World}{row:Option Nat}{b:Nat}{o:Obj}(hg:A.grownBy B row)(hr:∀r,row=some r→ ∃o:Obj,A.heap[r]?=some o∧o.isWalk=true)(hb:A.heap[b]?=some o)(ho:o.isWalk=false):B.heap[b]?=some o:=by
 rw [hg.block b (heap_lt hb) (fun e=>?_)]
 ·exact hb
 ·obtain ⟨o',h1,h2⟩:=hr b e.symm;rw [hb] at h1;cases h1;rw [ho] at h2;cases h2
theorem put_grown (W:World)(l:Nat)(o:Obj):W.grownBy (W.putObj l o) (some l):=grownBy_putObj' W l o
def SeqM {α:Type}(n:Nat)(P:Program)(g:Nat)(lb:Array Value)(encs:α→Array Value)(G:α→World→Prop)(Gd:World→Prop)(Kp:World→World→Prop)(S:List α→Prop)(N:Nat)(w:World):Prop:=
 ∀(l:Nat) (J:List α→World→Prop) (W:World),Below w.heap.size w W→AbidesFrom W.heap.size J→(∀pre W,J pre W→Gd W)→
  (∀pre x W1,J pre W1→G x W1→pre.length<N→YieldAt Fence.wide (n-1) P l (encs x) W1 fun e W'=>e = .returned (.bool true)∧J (pre++[x]) W'∧Kp W1 W')→
  J [] W→CallsIn Fence.wide n P g (#[.func (.yield l) #[] #[]]++lb) W fun e W'=>(∃v,e = .returned v)∧ ∃xs,S xs∧J xs W'
theorem SeqM.of {α:Type}{n:Nat}{P:Program}{g:Nat}{lb:Array Value}{encs:α→Array Value}{Kp:World→World→Prop}{S Sp:List α→Prop}{N:Nat}{w:World}(h:SeqStopsK Fence.wide n P g lb encs Kp S Sp N w):SeqM n P g lb encs (fun _ _=>True) (fun _=>True) Kp S N w:=by
 intro l J W hb hJ _ hY h0;refine (h l J (fun _ _=>False) W hb hJ (fun _ _ _ _ h _ _=>h) (fun pre x W1 hj hn=>(hY pre x W1 hj trivial hn).mono (fun e w hh=>Or.inl hh)) h0).mono ?_;rintro e W2 ⟨hv,hxs | ⟨pre,_,h⟩⟩
 ·exact ⟨hv,hxs⟩
 ·exact h.elim
theorem range_laidM {α:Type}{P:Program}{g:Operand}{ps:Array Tmp}{assign body:Code}{Q:Exit→Act→World→Prop}{a:Act}{w:World}{n gf:Nat}{lb:Array Value}(h1:1≤n)(hg:a.eval g = .func (.func gf) #[] lb)(eg:∀args w,(callFunc gf args).run P w = .ok (.enter gf args) w){encs:α→Array Value}{Kp:World→World→Prop}{G:α→World→Prop}{Gd:World→Prop}{S:List α→Prop}{N:Nat}(hseq:SeqM (n-1) P gf lb encs G Gd Kp S N w)(hKt:∀{A B C:World},Kp A B→Kp B C→Kp A C)(hKb:∀(W:World) (l:Nat) (o o':Obj),w.heap.size≤l→W.heap[l]?=some o→o.isCells=false→o.isWalk=false→Kp W (W.putObj l o'))(hps:∀x,(encs x).size = ps.size)(I:List α→World→Prop)(hI:OwnFrom w.heap.size I)(hGd:∀pre W,I pre W→Gd W)(h0:I [] w)(A1:List α→α→Act→World→Prop)(hA1:∀pre x a1 W l o o',w.heap.size≤l→W.heap[l]?=some o→o.isCells=false→A1 pre x a1 W→A1 pre x a1 (W.putObj l o'))(hassign:∀(l:Nat) (pre:List α) (x:α) (W:World),I pre W→G x W→pre.length<N→assign.wpIn (Fence.wide.inRound l) (n-1-1) P (Exit.then (fun a1 W1=>A1 pre x a1 W1∧KeepsFrom w.heap.size W W1∧Kp W W1) (fun _ _ _=>False)) {tmps:=(ps.zip (encs x)).foldl (fun t (p,v)=>t.setIfInBounds p v) a.tmps,defers:=[]} W)(hbody:∀(l:Nat) (pre:List α) (x:α) (a1:Act) (W:World),A1 pre x a1 W→pre.length<N→body.wpIn (Fence.wide.inRound l) (n-1-1) P (fun e _ W'=>e = .normal ∧KeepsFrom w.heap.size W W'∧Kp W W'∧I (pre++[x]) W') a1 W)(hdone:∀(D:Nat) (xs:List α) (W:World),w.heap.size≤D→S xs→I xs W→W.heap[D]?=some (.deferred (some []))→Q .normal {a with defers:={target:= .collected D,args:=#[]}::a.defers} W):
 (Code.rangeFunc g ps assign body).wpIn Fence.wide n P Q a w:=by
 refine wpIn_rangeFunc (fun fn _=>?_);have hin:∀{pre:List α} {W:World} {l:Nat} {o:Obj} (o':Obj),I pre W→w.heap.size≤l→W.heap[l]?=some o→o.isCells=false→I pre (W.putObj l o'):=fun {pre W l o} o' hi hl ho hc=>hI pre W _ (some l) hi (put_grown W l o') (fun r e=>by injection e with e;subst e;exact ⟨hl,o,ho,hc⟩)
 have hnew:∀{pre:List α} {W:World} (o:Obj),I pre W→I pre (W.alloc o):=fun {pre W} o hi=>hI pre W _ none hi (World.grownBy_alloc W o none) (fun r e=>by cases e)
 let R:LoopState→Loop:=fun st=>{state:=st,pending:=none,fn:=fn,tmps:=a.tmps,params:=ps,assign:=assign,body:=body,defers:=w.heap.size}
 obtain ⟨W1,hW1⟩:∃W1,(w.alloc (.deferred (some []))).alloc (.loop (R .ready))=W1:=⟨_,rfl⟩;have N2:=new2 w (.deferred (some [])) (.loop (R .ready));have hinit:I [] W1:=by rw [←hW1];exact hnew _ (hnew _ h0)
 rw [hW1] at N2;obtain ⟨b1,b2,b3,b4⟩:=N2;refine ⟨w.heap.size+1,[{target:= .collected w.heap.size,args:=#[]}],W1,{target:= .fn (.func gf) lb,args:=#[.func (.yield (w.heap.size+1)) #[] #[]]},W1,gf,#[.func (.yield (w.heap.size+1)) #[] #[]]++lb,W1,?_,?_,fun _ _=>trivial,?_,fun _=>h1,?_⟩
 ·rw [←hW1];exact run_enterLoop_outer _ _ _ _ _
 ·simp only [resolve,hg];simp [go_sem]
 ·simp [invoke,go_sem,eg]
 ·refine (hseq (w.heap.size+1) (fun pre W=>I pre W∧W.heap[w.heap.size+1]?=some (.loop (R .ready))∧W.heap[w.heap.size]?=some (.deferred (some []))) W1 b4 ?_ (fun pre W h=>hGd pre W h.1) ?_ ⟨hinit,b2,b1⟩).mono ?_
  ·rintro s A B row ⟨hi,hl,hk⟩ hgr hr;exact ⟨hI s A B row hi hgr (fun r e=>by obtain ⟨q1,o,q2,q3⟩:=hr r e;exact ⟨by omega,o,q2,Obj.not_cells_of_walk q3⟩),turned_keep hgr (fun r e=>(hr r e).2) hl rfl,turned_keep hgr (fun r e=>(hr r e).2) hk rfl⟩
  ·rintro pre x W ⟨hi,hl,hk⟩ hG hlen;refine ⟨fn,_,assign,body,run_yield hl (hps x),roundIn_of_wpIn trivial ?_⟩;refine wpIn_mono (hassign (w.heap.size+1) pre x W hi hG hlen) (fun e a1 Wa hh=>?_);cases e with
   | normal=>
    obtain ⟨ha,hka,hpa⟩:=hh;have hla:=hka.same _ _ (by omega) hl rfl;have hda:=hka.same _ _ (Nat.le_refl _) hk rfl;refine ⟨_,run_beginRound hla rfl,?_⟩;have hlb:(Wa.putObj (w.heap.size+1) (.loop {R .ready with state:= .busy})).heap[w.heap.size+1]?=some (.loop {R .ready with state:= .busy}):=World.putObj_heap_same (heap_lt hla);have hdb:(Wa.putObj (w.heap.size+1) (.loop {R .ready with state:= .busy})).heap[w.heap.size]?=some (.deferred (some [])):=(World.putObj_heap_other (by omega)).trans hda;have hpb:=hKb Wa (w.heap.size+1) _ (.loop {R .ready with state:= .busy}) (by omega) hla rfl rfl;refine wpIn_mono (hbody (w.heap.size+1) pre x a1 _ (hA1 pre x a1 Wa _ _ _ (by omega) hla rfl ha) hlen) (fun e2 a2 Wb hb=>?_);obtain ⟨rfl,hkb,hpc,hib⟩:=hb;have hlc:=hkb.same _ _ (by omega) hlb rfl;have hdc:=hkb.same _ _ (Nat.le_refl _) hdb rfl;refine ⟨_,_,run_endRound none hlc,rfl,⟨hin _ hib (by omega) hlc rfl,World.putObj_heap_same (heap_lt hlc),(World.putObj_heap_other (by omega)).trans hdc⟩,hKt (hKt (hKt hpa hpb) hpc) (hKb _ _ _ _ (by omega) hlc rfl rfl)⟩
   | _=>exact hh.elim
  ·rintro e W2 ⟨⟨v,rfl⟩,xs,hS,hi,hl,hk⟩;exact ⟨none,_,run_endLoop hl (by simp [R]),hdone _ xs _ (Nat.le_refl _) hS (hin _ hi (by omega) hl rfl) ((World.putObj_heap_other (by omega)).trans hk)⟩
theorem range_laid {α:Type}{P:Program}{g:Operand}{ps:Array Tmp}{assign body:Code}{Q:Exit→Act→World→Prop}{a:Act}{w:World}{n gf:Nat}{lb:Array Value}(h1:1≤n)(hg:a.eval g = .func (.func gf) #[] lb)(eg:∀args w,(callFunc gf args).run P w = .ok (.enter gf args) w){encs:α→Array Value}{Kp:World→World→Prop}{S Sp:List α→Prop}{N:Nat}(hseq:SeqStopsK Fence.wide (n-1) P gf lb encs Kp S Sp N w)(hKt:∀{A B C:World},Kp A B→Kp B C→Kp A C)(hKb:∀(W:World) (l:Nat) (o o':Obj),w.heap.size≤l→W.heap[l]?=some o→o.isCells=false→o.isWalk=false→Kp W (W.putObj l o'))(hps:∀x,(encs x).size = ps.size)(I:List α→World→Prop)(hI:OwnFrom w.heap.size I)(h0:I [] w)(A1:List α→α→Act→World→Prop)(hA1:∀pre x a1 W l o o',w.heap.size≤l→W.heap[l]?=some o→o.isCells=false→A1 pre x a1 W→A1 pre x a1 (W.putObj l o'))(hassign:∀(l:Nat) (pre:List α) (x:α) (W:World),I pre W→pre.length<N→assign.wpIn (Fence.wide.inRound l) (n-1-1) P (Exit.then (fun a1 W1=>A1 pre x a1 W1∧KeepsFrom w.heap.size W W1∧Kp W W1) (fun _ _ _=>False)) {tmps:=(ps.zip (encs x)).foldl (fun t (p,v)=>t.setIfInBounds p v) a.tmps,defers:=[]} W)(hbody:∀(l:Nat) (pre:List α) (x:α) (a1:Act) (W:World),A1 pre x a1 W→pre.length<N→body.wpIn (Fence.wide.inRound l) (n-1-1) P (fun e _ W'=>e = .normal ∧KeepsFrom w.heap.size W W'∧Kp W W'∧I (pre++[x]) W') a1 W)(hdone:∀(D:Nat) (xs:List α) (W:World),w.heap.size≤D→S xs→I xs W→W.heap[D]?=some (.deferred (some []))→Q .normal {a with defers:={target:= .collected D,args:=#[]}::a.defers} W):
 (Code.rangeFunc g ps assign body).wpIn Fence.wide n P Q a w:=
 range_laidM h1 hg eg (SeqM.of hseq) hKt hKb hps I hI (fun _ _ _=>trivial) h0 A1 hA1 (fun l pre x W hi _ hn=>hassign l pre x W hi hn) hbody hdone
end
end Go.Proofs.YtdjiopacieadpaaGreatDoor
