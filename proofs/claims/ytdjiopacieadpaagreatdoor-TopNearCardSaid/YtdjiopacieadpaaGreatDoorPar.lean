/- TopNear: part Par: ScA ScB GeoP ScC. -/
import Derived.Test.YtdjiopacieadpaaGreatDoorPaq
import Derived.RegionIn
set_option linter.unusedVariables false
set_option linter.unusedSimpArgs false
set_option maxRecDepth 8000
set_option maxHeartbeats 8000000
namespace Go.Proofs.YtdjiopacieadpaaGreatDoor
section
open Go.RowKit
theorem wide_scope {n:Nat}{P:Program}{c:Code}{Q:Exit→Act→World→Prop}{a:Act}{w:World}(h:c.wpIn Fence.wide n P (Exit.noGoto Q) a w):(Code.scope c).wpIn Fence.wide n P Q a w:=wpIn_wide.2 (wp_scope_straight (wpIn_wide.1 h))
theorem wide_label {n l:Nat}{P:Program}{Q:Exit→Act→World→Prop}{a:Act}{w:World}(h:Q .normal a w):(Code.label l).wpIn Fence.wide n P Q a w:=wpIn_wide.2 (wp_label h)
abbrev Fr:=Nat×Nat×Value×List Nat
def frE (ep:Nat)(x:Fr):Array Value:=#[.int .i64 x.1,.agg #[.int .u64 ep,.int .u64 x.2.1,x.2.2.1]]
def frP (x:Fr):Nat×Nat×List Nat:=(x.1,x.2.1,x.2.2.2)
def frG (base:Nat)(x:Fr)(W:World):Prop:=W.ownsRow base 5 1 x.2.2.1 x.2.2.2.length (Lb x.2.2.2)∧x.2.2.2.length≤32∧x.1≤100000∧Bs x.2.2.2
theorem belowGrows {w w':World}(h:Below w.heap.size w w')(r:Option Nat):w.grownBy w' r:=⟨h.os,h.tape,h.output,h.size,fun k hk _=>h.block k hk⟩
theorem Tab.stay {w w':World}(h:Tab w)(hb:w'.heap[1]?=w.heap[1]?):Tab w':=fun i hi=>(World.cell?_of_block (w:=w) (a:=⟨1,i,none⟩) hb).trans (h i hi)
theorem scanF_step {ep m a last:Nat}{b:List Nat}(h:nxtFr ep last b)(hm:0<m):scanF ep m b a last=(a,last+1,fBd b)::scanF ep (m-1) (b.drop (22+bl b)) (a+22+bl b) (last+1):=by
 obtain ⟨k,rfl⟩:∃k,m=k+1:=⟨m-1,by omega⟩;show (if nxtFr ep last b then _ else _)=_
 rw [if_pos h];rfl
theorem scanF_stop {ep m a last:Nat}{b:List Nat}(h:¬nxtFr ep last b):scanF ep m b a last=[]:=by
 cases m with
 | zero=>rfl
 | succ k=>show (if nxtFr ep last b then _ else _)=_;rw [if_neg h]
structure Es (W:World)(A B C g cap ep seq:Nat)(b:List Nat):Prop where
 ha:W.heap[A]?=some (Obj.cells #[.int .u64 seq] 39 (0,0))
 hb:W.heap[B]?=some (Obj.cells #[.slice (some ⟨g,0,none⟩) b.length cap] 34 (0,0))
 hc:W.heap[C]?=some (Obj.cells #[.int .u64 ep] 39 (0,0))
 hs:Sl W (.slice (some ⟨g,0,none⟩) b.length cap) (Lb b)
 ht:Tab W
def Ek (A B C g:Nat)(k:Nat):Prop:=k=A∨k=B∨k=C∨k=g∨k=1
theorem Es.kz {W W':World}{A B C g cap ep seq:Nat}{b:List Nat}(h:Es W A B C g cap ep seq b)(hk:Kzs (Ek A B C g) W W'):Es W' A B C g cap ep seq b:=by
 obtain ⟨x,n,e1,h1,h2,h3⟩:=id h.hs;refine ⟨(hk.1 A (Or.inl rfl)).trans h.ha,(hk.1 B (Or.inr (Or.inl rfl))).trans h.hb,(hk.1 C (Or.inr (Or.inr (Or.inl rfl)))).trans h.hc,⟨x,n,e1,h1,h2,?_⟩,h.ht.stay (hk.1 1 (Or.inr (Or.inr (Or.inr (Or.inr rfl)))))⟩;rcases h3 with h3 | ⟨q,off,e,hq,h4⟩
 ·exact Or.inl h3
 ·subst e;injection e1 with e1 _ _;injection e1 with e1;injection e1 with e1 e2 _;subst e1;exact Or.inr ⟨g,off,rfl,Nat.lt_of_lt_of_le hq hk.2,fun j u hu=>(World.cell?_of_block (w:=W) (a:=⟨g,off+j,none⟩) (hk.1 g (Or.inr (Or.inr (Or.inr (Or.inl rfl)))))).trans (h4 j u hu)⟩
theorem Es.lt {W:World}{A B C g cap ep seq:Nat}{b:List Nat}(h:Es W A B C g cap ep seq b)(hb:0<b.length):∀k,Ek A B C g k→k<W.heap.size:=by
 rintro k (rfl | rfl | rfl | rfl | rfl)
 ·exact heap_lt h.ha
 ·exact heap_lt h.hb
 ·exact heap_lt h.hc
 ·refine Sl_lt h.hs (fun e=>?_) _ rfl;have:=congrArg List.length e;rw [Lb_len] at this;simp only [List.length_nil] at this;omega
 ·exact h.ht.size
theorem Es.new {W W':World}{A B C g cap ep seq:Nat}{b:List Nat}(h:Es W A B C g cap ep seq b)(hb:0<b.length)(hk:Below W.heap.size W W'):Es W' A B C g cap ep seq b:=
 h.kz ⟨fun k hk'=>hk.block k (h.lt hb k hk'),hk.size⟩
set_option maxRecDepth 100000 in
theorem each1_in (ep seq:Nat)(n l A B C g cap:Nat)(b:List Nat)(J:List Fr→World→Prop)(Gd:World→Prop)(Kq:World→World→Prop)(D base:Nat)(hK1:∀W W',Gd W→Kq W W'→Kzs (Ek A B C g) W W')(hK2:∀W c t W',Gd W→Kq (W.alloc (.cells c t)) W'→W'.heap[W.heap.size]?=some (.cells c t))(hGd:∀pre W,J pre W→Gd W)(hJ:AbidesFrom D J)(hseq:seq<18446744073709551616)(hep:ep<18446744073709551616)(hlen:b.length≤100000)(hbs:Bs b)(hb0:0<b.length)(hY:∀pre x W1,J pre W1→frG base x W1→pre.length<b.length / 22+1→YieldAt Fence.wide (n-1) Tryz.prog l (frE ep x) W1 fun e W'=>e = .returned (.bool true)∧J (pre++[x]) W'∧Kq W1 W')(W:World)(hbase:base≤W.heap.size)(hE:Es W A B C g cap ep seq b)(h0:J [] W):
 CallsIn Fence.wide n Tryz.prog 187 #[.func (.yield l) #[] #[],.pointer (some ⟨A,0,none⟩),.pointer (some ⟨B,0,none⟩),.pointer (some ⟨C,0,none⟩)] W fun e W'=>(∃v,e = .returned v)∧ ∃xs,xs.map frP=scanF ep (b.length+1) b 0 seq∧J xs W':=by
 refine callsIn_of_wp Tryz.func187 rfl trivial ?_ rfl;simp only [Tryz.ntmps187,List.size_toArray,List.length_cons,List.length_nil,Nat.reduceAdd,Nat.reduceSub,Array.replicate_succ,Array.replicate_zero,List.push_toArray,List.append_toArray,List.nil_append,List.cons_append];obtain ⟨c0,f0⟩:=cells1 hE.ha;have HE:=hid hE;have HY:=hid hY;have HJ:=hid hJ;have H0:=hid h0;clear hE hY hJ h0;gi_wp2
 refine wide_scope ?_;gi_wp2
 gi_region
 gi_wp2
 refine wide_label ?_;gi_wp2
 gi_loopw [5,6] (fun i j wr=> ∃(at_ last m:Nat) (xs:List Fr),i = .int .i64 at_∧j = .int .u64 last∧at_≤b.length∧last<18446744073709551616∧22*xs.length≤at_∧b.length-at_<m∧scanF ep (b.length+1) b 0 seq=xs.map frP++scanF ep m (b.drop at_) at_ last∧J xs wr∧Es wr A B C g cap ep seq b∧base≤wr.heap.size) (fun i j wr=>b.length-(intOf i).toNat)
 case atStart=>exact ⟨0,seq,b.length+1,[],rfl,rfl,Nat.zero_le _,hseq,Nat.zero_le _,by omega,rfl,HJ.out [] W _ none H0.out (belowGrows (Below.refl W.heap.size W).drew none) (fun r e=>by cases e),HE.out.new hb0 (Below.refl _ _).drew,hbase⟩
 case round=>
  obtain ⟨at_,last,m,xs,rfl,rfl,hat,hlast,hxs,hm,hsc,hJx,hEs,hbs2⟩:=hrel;by_cases hw:last+1<18446744073709551616
  ·have hwI:IntKind.u64.wrap ((last:Int)+1)=(last:Int)+1:=by rw [IntKind.wrap_u64];omega
   have hne:¬((last:Int)+1=0):=by omega
   obtain ⟨b0,_⟩:=cells1 hEs.hb;obtain ⟨c0,_⟩:=cells1 hEs.hc;have hcap:b.length≤cap∧cap≤maxLen:=by obtain ⟨x,n,e,h1,h2,_⟩:=hEs.hs;injection e with e1 e2 e3;rw [e3];rw [Lb_len] at h1;exact ⟨h1,h2⟩
   have hsl:=Sl_cut hEs.hs hat (Nat.le_refl _);have hsl0:cap=at_→Sl wr (.slice (some ⟨g,0,none⟩) (b.length-at_) 0) (Lb (b.drop at_)):=fun e=>by
    have e2:b.drop at_=[]:=by rw [List.drop_eq_nil_iff];omega
    rw [e2,show b.length-at_=0 by omega];exact ⟨_,0,rfl,Nat.le_refl _,by unfold maxLen;omega,Or.inl ⟨rfl,rfl⟩⟩
   rw [Nat.zero_add,show (Lb b).take b.length=Lb b by rw [List.take_of_length_le (by rw [Lb_len];omega)],Lb_drop] at hsl;have hG:=fun v hv=>fget_any v (b.drop at_) wr hv (fun y hy=>hbs y (List.mem_of_mem_drop hy)) hEs.ht (by rw [List.length_drop];omega)
   have HG:=hid hG;have HES:=hid hEs;have HSL:=hid hsl;have HSL0:=hid hsl0;have HJX:=hid hJx;have HSC:=hid hsc;clear hJx hEs hsc hsl hsl0 hG;gi_wp2_with fail
   all_goals refine ⟨trivial,fun e=>by simp [Fence.wide] at e,CallsIn.mono (wide_in (HG.out _ (by first | exact HSL.out | exact HSL0.out (by assumption)))) ?_⟩
   all_goals rintro e w2 ⟨Fv,n2,er,rfl,hb2,hres⟩
   ·rcases hres with ⟨hgood,_⟩ | ⟨hbad,herr,rfl⟩
    ·exact absurd hgood.1 (by rw [List.length_drop];omega)
    ·gi_wp2_with fail
     have hnx:¬nxtFr ep last (b.drop at_):=fun h=>hbad h.1
     have hsc9:=HSC.out;rw [scanF_stop hnx,List.append_nil] at hsc9;have HS9:=hid hsc9.symm;clear hsc9;have HJ3:=hid (HJ.out xs wr _ none HJX.out (belowGrows (hb2.trans ((new1 w2 (.cells #[.int .u64 0,.int .u64 0,.slice none 0 0] 220)).2.2.mono hb2.size)) none) (fun r e=>by cases e));try rw [Exit.noGoto_normal]
     go_end0
     exact ⟨⟨_,rfl⟩,xs,HS9.out,HJ3.out⟩
   rcases hres with ⟨hgood,rfl,rfl,bv,rfl,hown⟩ | ⟨hbad,herr,rfl⟩
   ·obtain ⟨e1,he1⟩:∃e1,fEp (b.drop at_)=e1:=⟨_,rfl⟩;obtain ⟨e2,he2⟩:∃e2,fSq (b.drop at_)=e2:=⟨_,rfl⟩;obtain ⟨bb,hbb⟩:∃bb,bl (b.drop at_)=bb:=⟨_,rfl⟩;obtain ⟨B0,hB0⟩:∃B0,fBd (b.drop at_)=B0:=⟨_,rfl⟩;have q1:ofLe (List.take 8 (List.drop 2 (b.drop at_)))=e1:=he1;have q2:ofLe (List.take 8 (List.drop 10 (b.drop at_)))=e2:=he2;have q3:List.take (bl (b.drop at_)) (List.drop 18 (b.drop at_))=B0:=hB0;rw [q3] at hown;rw [hbb] at hown;rw [q1,q2,hbb];by_cases k1:e1=ep
    ·by_cases k2:e2=last+1
     ·have hnx:nxtFr ep last (b.drop at_):=⟨hgood,by rw [he1];exact k1,by rw [he2];exact k2,hw⟩;subst k1 k2;clear q1 q2 q3;obtain ⟨oa,rn,erv,_,_⟩:=own_form hown;subst erv;have hE2:=HES.out.new hb0 hb2;obtain ⟨W3,hW3⟩:∃W3,w2.alloc (.cells #[.int .u64 e1,.int .u64 ((last:Int)+1),.slice oa bb rn] 220)=W3:=⟨_,rfl⟩;have N3:=new1 w2 (.cells #[.int .u64 e1,.int .u64 ((last:Int)+1),.slice oa bb rn] 220);rw [hW3] at N3;have hB3:Below wr.heap.size wr W3:=hb2.trans (N3.2.2.mono hb2.size);have hE3:=hE2.new hb0 N3.2.2;have hJ3:=HJ.out xs wr W3 none HJX.out (belowGrows hB3 none) (fun r e=>by cases e);have hbl:=fBd_len hgood;rw [hB0,hbb] at hbl;have hb32:bb≤32:=by rw [←hbb];exact hgood.2.1
      have hfit:22+bb≤b.length-at_:=by have:=hgood.2.2.1;rw [hbb,List.length_drop] at this;exact this
      have hG3:frG base (at_,last+1,.slice oa bb rn,B0) W3:=⟨by dsimp only;rw [hbl];exact own_mono (own_below hown N3.2.2 (Nat.le_refl _)) hbs2,by dsimp only;omega,by dsimp only;omega,fun y hy=>by rw [←hB0] at hy;exact hbs y (List.mem_of_mem_drop (List.mem_of_mem_drop (List.mem_of_mem_take hy)))⟩;obtain ⟨fn,tmps,assign,body,hy,hround⟩:=HY.out xs (at_,last+1,.slice oa bb rn,B0) W3 hJ3 hG3 (by omega);obtain ⟨d0,_⟩:=cells1 hE2.hc;obtain ⟨d3,_⟩:=cells1 hE3.hc;obtain ⟨v0,_,v1,_,v2,_⟩:=cells3 N3.1;have HRD:=hid hround;have HE3:=hid hE3;have HG3:=hid hG3;have HJ3:=hid hJ3;have hy':(Instr.yield l #[.int .i64 at_,.agg #[.int .u64 e1,.int .u64 ((last:Int)+1),.slice oa bb rn]]).run Tryz.prog W3=_:=hy;have hW3':=hW3;clear hE2 hE3 hJ3 hG3 hround hy N3;gi_wp2_with fail
      refine ⟨fun e=>by simp [Fence.wide] at e,HRD.out.mono ?_⟩;rintro e W4 ⟨rfl,hJ4,hk4⟩;have hj2:=HJ.out xs wr w2 none HJX.out (belowGrows hb2 none) (fun r e=>by cases e);have hf4:=hK2 w2 _ _ W4 (hGd _ _ hj2) (by rw [hW3];exact hk4);have hkz:=hK1 _ _ (hGd _ _ HJ3.out) hk4;have hE4:=HE3.out.kz hkz;obtain ⟨z0,_,z1,_,z2,_⟩:=cells3 hf4;have hb4:base≤W4.heap.size:=by have:=hkz.2;have:=hB3.size;omega
      have HE4:=hid hE4;have HJ4:=hid hJ4;clear hE4 hJ4 v0 v1 v2 d0 d3 hW3';gi_wp2_with fail
      gi_region
      have hmp:0<m:=by omega
      have hdr:List.drop (22+bb) (List.drop at_ b)=List.drop (at_+22+bb) b:=by rw [List.drop_drop,show at_+(22+bb)=at_+22+bb by omega]
      have hsc5:scanF e1 (b.length+1) b 0 seq=List.map frP (xs++[(at_,last+1,Value.slice oa bb rn,B0)])++scanF e1 (m-1) (List.drop (at_+22+bb) b) (at_+22+bb) (last+1):=by
       rw [HSC.out,scanF_step hnx hmp,hbb,hB0,hdr,List.map_append,List.append_assoc];rfl
      have HS5:=hid hsc5;clear hsc5;gi_wp2
      go_roundw;case rel=>exact ⟨at_+22+bb,last+1,m-1,xs++[(at_,last+1,Value.slice oa bb rn,B0)],by go_num,by go_num,by omega,by omega,by rw [List.length_append];show 22*(xs.length+1)≤_;omega,by omega,HS5.out,HJ.out _ W4 _ none HJ4.out (belowGrows (Below.refl W4.heap.size W4).drew none) (fun r e=>by cases e),HE4.out.new hb0 (Below.refl _ _).drew,hb4⟩
      case measure=>simp [intOf];omega
     ·have hnx:¬nxtFr ep last (b.drop at_):=fun h=>k2 (by rw [←he2];exact h.2.2.1)
      have k2I:¬((e2:Int)=(last:Int)+1):=by omega
      have hsc9:=HSC.out;rw [scanF_stop hnx,List.append_nil] at hsc9;have HS9:=hid hsc9.symm;subst k1;clear q1 q2 q3 hsc9;obtain ⟨oa,rn,erv,_,_⟩:=own_form hown;subst erv;have hE2:=HES.out.new hb0 hb2;obtain ⟨d0,_⟩:=cells1 hE2.hc;have N3:=new1 w2 (.cells #[.int .u64 e1,.int .u64 e2,.slice oa bb rn] 220);have hE3:=hE2.new hb0 N3.2.2;obtain ⟨d3,_⟩:=cells1 hE3.hc;have HJ3:=hid (HJ.out xs wr _ none HJX.out (belowGrows (hb2.trans (N3.2.2.mono hb2.size)) none) (fun r e=>by cases e));clear hE2 hE3 N3;gi_wp2_with fail
      try rw [Exit.noGoto_normal]
      go_end0
      exact ⟨⟨_,rfl⟩,xs,HS9.out,HJ3.out⟩
    ·have hnx:¬nxtFr ep last (b.drop at_):=fun h=>k1 (by rw [←he1];exact h.2.1)
     have k1I:¬((e1:Int)=(ep:Int)):=by omega
     have hsc9:=HSC.out;rw [scanF_stop hnx,List.append_nil] at hsc9;have HS9:=hid hsc9.symm;clear q1 q2 q3 hsc9;obtain ⟨oa,rn,erv,_,_⟩:=own_form hown;subst erv;have hE2:=HES.out.new hb0 hb2;obtain ⟨d0,_⟩:=cells1 hE2.hc;have N3:=new1 w2 (.cells #[.int .u64 e1,.int .u64 e2,.slice oa bb rn] 220);have hE3:=hE2.new hb0 N3.2.2;obtain ⟨d3,_⟩:=cells1 hE3.hc;have HJ3:=hid (HJ.out xs wr _ none HJX.out (belowGrows (hb2.trans (N3.2.2.mono hb2.size)) none) (fun r e=>by cases e));clear hE2 hE3 N3;gi_wp2_with fail
     try rw [Exit.noGoto_normal]
     go_end0
     exact ⟨⟨_,rfl⟩,xs,HS9.out,HJ3.out⟩
   ·have hnx:¬nxtFr ep last (b.drop at_):=fun h=>hbad h.1
    have hsc9:=HSC.out;rw [scanF_stop hnx,List.append_nil] at hsc9;have HS9:=hid hsc9.symm;clear hsc9;have N3:=new1 w2 (.cells #[.int .u64 0,.int .u64 0,.slice none 0 0] 220);have HJ3:=hid (HJ.out xs wr _ none HJX.out (belowGrows (hb2.trans (N3.2.2.mono hb2.size)) none) (fun r e=>by cases e));clear N3;gi_wp2_with fail
    try rw [Exit.noGoto_normal]
    go_end0
    exact ⟨⟨_,rfl⟩,xs,HS9.out,HJ3.out⟩
  ·have hnx:¬nxtFr ep last (b.drop at_):=fun h=>hw h.2.2.2
   have hsc9:=hsc;rw [scanF_stop hnx,List.append_nil] at hsc9;have HS9:=hid hsc9.symm;have HJ3:=hid hJx;have hwI:IntKind.u64.wrap ((last:Int)+1)=0:=by rw [IntKind.wrap_u64];omega
   clear hsc9 hsc hJx;gi_wp2_with fail
   try rw [Exit.noGoto_normal]
   go_end0
   exact ⟨⟨_,rfl⟩,xs,HS9.out,HJ3.out⟩
theorem each_seq (ep seq n A B C g cap:Nat)(b:List Nat)(Gd:World→Prop)(Kq:World→World→Prop)(w:World)(hK1:∀W W',Gd W→Kq W W'→Kzs (Ek A B C g) W W')(hK2:∀W c t W',Gd W→Kq (W.alloc (.cells c t)) W'→W'.heap[W.heap.size]?=some (.cells c t))(hseq:seq<18446744073709551616)(hep:ep<18446744073709551616)(hlen:b.length≤100000)(hbs:Bs b)(hb0:0<b.length)(hE:Es w A B C g cap ep seq b):
 SeqM n Tryz.prog 187 #[.pointer (some ⟨A,0,none⟩),.pointer (some ⟨B,0,none⟩),.pointer (some ⟨C,0,none⟩)] (frE ep) (frG w.heap.size) Gd Kq (fun xs=>xs.map frP=scanF ep (b.length+1) b 0 seq) (b.length / 22+1) w:=fun l J W hW hJ hGd hY h0=>
 each1_in ep seq n l A B C g cap b J Gd Kq W.heap.size w.heap.size hK1 hK2 hGd hJ hseq hep hlen hbs hb0 hY W hW.size (hE.new hb0 hW) h0
def FEach (w:World)(ep seq:Nat)(b:List Nat)(e:Ending)(w':World):Prop:= ∃A B C g cap,e = .returned (.func (.func 187) #[] #[.pointer (some ⟨A,0,none⟩),.pointer (some ⟨B,0,none⟩),.pointer (some ⟨C,0,none⟩)])∧Es w' A B C g cap ep seq b∧Below w.heap.size w w'∧w.heap.size≤A∧w.heap.size≤B∧w.heap.size≤C∧w.heap.size≤g
theorem feach_any (ep seq:Nat)(v:Value)(b:List Nat)(w:World)(hv:Sl w v (Lb b))(h0:0<b.length)(hl:b.length≤100000)(hT:Tab w):Calls Tryz.prog 153 #[v,.int .u64 ep,.int .u64 seq] w (FEach w ep seq b):=by
 obtain ⟨oa,c,rfl,hc,hcm⟩:=Sl_partsB hv;have hmf:∀(w':World),(Instr.makeFunc (Fn.func 187) #[] #[.pointer (some ⟨w.heap.size+2,0,none⟩),.pointer (some ⟨w.heap.size,0,none⟩),.pointer (some ⟨w.heap.size+1,0,none⟩)]).run Tryz.prog w' = .ok (.func (.func 187) #[] #[.pointer (some ⟨w.heap.size+2,0,none⟩),.pointer (some ⟨w.heap.size,0,none⟩),.pointer (some ⟨w.heap.size+1,0,none⟩)]) w':=fun _=>rfl
 obtain ⟨w1,hw1⟩:∃w1,((w.alloc (.cells #[.slice oa b.length c] 34)).alloc (.cells #[.int .u64 ep] 39)).alloc (.cells #[.int .u64 seq] 39)=w1:=⟨_,rfl⟩;have n1:=new1 w (.cells #[.slice oa b.length c] 34);have n2:=new1 (w.alloc (.cells #[.slice oa b.length c] 34)) (.cells #[.int .u64 ep] 39);have n3:=new1 ((w.alloc (.cells #[.slice oa b.length c] 34)).alloc (.cells #[.int .u64 ep] 39)) (.cells #[.int .u64 seq] 39);rw [hw1] at n3;rw [n2.2.1] at n3;rw [n1.2.1] at n2 n3;have e1:w1.heap[w.heap.size]?=some (Obj.cells #[.slice oa b.length c] 34 (0,0)):=(n3.2.2.block _ (by omega)).trans ((n2.2.2.block _ (by omega)).trans n1.1);have e2:w1.heap[w.heap.size+1]?=some (Obj.cells #[.int .u64 ep] 39 (0,0)):=(n3.2.2.block _ (by omega)).trans n2.1;have e3:w1.heap[w.heap.size+2]?=some (Obj.cells #[.int .u64 seq] 39 (0,0)):=n3.1;have hb:Below w.heap.size w w1:=(n1.2.2.trans (n2.2.2.mono (by omega))).trans (n3.2.2.mono (by omega));have hv1:=Sl_below hv hb (Nat.le_refl _);have HC:=hid (bclone_any _ b w1 hv1 h0 (by omega));have HB:=hid hb;have hTw:=hT;have HT:=hid hT;have E1:=hid e1;have E2:=hid e2;have E3:=hid e3;have HSZ:=hid n3.2.1;obtain ⟨x1,y1⟩:=cells1 e1;clear n1 n2 n3 e1 e2 e3 hb hv1 hv hT hTw;go_enter Tryz.func153,Tryz.ntmps153;go_wp2_with fail;refine HC.out.mono ?_;rintro e w2 ⟨v2,rfl,ho,hb2⟩;obtain ⟨oa2,rn,erv,hr1,hr2⟩:=own_form ho;subst erv;obtain ⟨g,rfl,hg1⟩:∃g,oa2=some ⟨g,0,none⟩∧w1.heap.size≤g:=by
  rcases ho.2 with ⟨e,_⟩ | ⟨g,cap,cur,e,hbg,_⟩
  ·injection e with _ e2 _;omega
  ·injection e with e1 _ _;exact ⟨g,e1,hbg⟩
 have hs2:Sl w2 (.slice (some ⟨g,0,none⟩) b.length rn) (Lb b):=Sl_of_own ho;have E1':w2.heap[w.heap.size]?=some (Obj.cells #[.slice oa b.length c] 34 (0,0)):=Bl.blk hb2 E1.out;have hgl:g<w2.heap.size:=Sl_lt hs2 (fun e=>by have:=congrArg List.length e;rw [Lb_len] at this;simp only [List.length_nil] at this;omega) _ rfl;obtain ⟨z1,q1⟩:=cells1 E1';have hsz:=HSZ.out;have hEs:FEach w ep seq b (.returned (.func (.func 187) #[] #[.pointer (some ⟨w.heap.size+2,0,none⟩),.pointer (some ⟨w.heap.size,0,none⟩),.pointer (some ⟨w.heap.size+1,0,none⟩)])) (w2.setCell ⟨w.heap.size,0,none⟩ (.slice (some ⟨g,0,none⟩) b.length rn)):=by
  have hne:∀k,k≠w.heap.size→ ∀v,(w2.setCell ⟨w.heap.size,0,none⟩ v).heap[k]?=w2.heap[k]? :=fun k hk v=>heap_setCell_ne _ _ _ hk
  refine ⟨w.heap.size+2,w.heap.size,w.heap.size+1,g,rn,rfl,⟨(hne _ (by omega) _).trans (Bl.blk hb2 E3.out),Boxed.set _ E1',(hne _ (by omega) _).trans (Bl.blk hb2 E2.out),?_,?_⟩,?_,by omega,by omega,by omega,by omega⟩
  ·obtain ⟨x,n,e1,h1,h2,h3⟩:=id hs2;refine ⟨x,n,e1,h1,h2,?_⟩;rcases h3 with h3 | ⟨q,off,e,hq,h4⟩
   ·exact Or.inl h3
   ·subst e;injection e1 with e1 _ _;injection e1 with e1;injection e1 with e1 e2 _;subst e1;exact Or.inr ⟨g,off,rfl,by rw [World.size_setCell];exact hq,fun j u hu=>(World.cell?_of_block (w:=w2) (a:=⟨g,off+j,none⟩) (hne g (by omega) _)).trans (h4 j u hu)⟩
  ·have h1:=HT.out.size;exact HT.out.stay ((hne 1 (by omega) _).trans ((hb2.block 1 (by omega)).trans (HB.out.block 1 h1)))
  ·have hbw:=HB.out.trans (hb2.mono (by omega));exact hbw.setCell (p:=⟨w.heap.size,0,none⟩) (Nat.le_refl _) _
 have HEs:=hid hEs;clear hEs hs2 E1' hgl ho hb2 hsz;go_wp2_with fail;go_ret;exact HEs.out
theorem shB_nat {s c g:Int}(h:shB s c g=true):∃S C G:Nat,s=S∧c=C∧g=G∧1≤S∧S≤1024∧1≤C∧C≤4096∧1≤G∧G≤64:=by
 unfold shB at h;rw [decide_eq_true_iff] at h;exact ⟨s.toNat,c.toNat,g.toNat,by omega,by omega,by omega,by omega,by omega,by omega,by omega,by omega,by omega⟩
theorem slotN_le {s c z:Nat}(h1:s≤1024)(h3:64≤z):slotN s c z≤300:=by
 unfold slotN;have h8:20+14*min s c≤14356:=by omega
 have:(20+14*min s c+z-1) / z<299:=by
  rw [Nat.div_lt_iff_lt_mul (by omega)];omega
 omega
theorem need_any (s c g z:Nat)(w:World)(h1:1≤s)(h2:s≤1024)(h3:1≤c)(h4:c≤4096)(h5:1≤g)(h6:g≤64)(hz:sizedB z=true):
 Calls Tryz.prog 40 #[.agg #[.int .i64 s,.int .i64 c,.int .i64 g],.int .i64 z] w fun e w'=>e = .returned (.tuple #[.int .i64 ((2*slotN s c z+1:Nat):Int),.int .i64 0])∧Below w.heap.size w w':=by
 have hz2:=sizedB_le hz;have hk:=slotN_le (c:=c) h2 (show 64≤z by omega);have hup:(54+(z:Int)-1) / (z:Int)=1:=by
  have e1:(54+(z:Int)-1)=53+1*(z:Int):=by omega
  rw [e1,Int.add_mul_ediv_right _ _ (by omega),Int.ediv_eq_zero_of_lt (by omega) (by omega)];rfl
 have HU:=hid hup;have HZ:=hid hz;clear hup hz;go_enter Tryz.func40,Tryz.ntmps40;go_wp2_with fail;refine (geoCheck_ok _ _ _ _ (by omega) (by omega) (by omega) (by omega) (by omega) (by omega)).mono ?_;rintro e w1 ⟨rfl,hb⟩;have hb1:=((Below.refl w.heap.size w).alloc (Nat.le_refl _) (.cells #[.int .i64 s,.int .i64 c,.int .i64 g] 23)).trans (hb.mono (by simp));have hcell:∀i,w1.cell? ⟨w.heap.size,i,none⟩=(#[Value.int .i64 s,.int .i64 c,.int .i64 g]:Array Value)[i]? :=(blk ((hb.block w.heap.size (by simp)).trans (heap_alloc_new w _))).1;have hP:=(hb.block w.heap.size (by simp)).trans (heap_alloc_new w (.cells #[.int .i64 s,.int .i64 c,.int .i64 g] 23));have c0:=hcell 0;have c1:=hcell 1;have c2:=hcell 2;have HB1:=hid hb1;clear hb hb1 hcell hP;go_wp2_with fail;refine (sized_any _ _).mono ?_;rintro e w' ⟨rfl,rfl⟩;rw [HZ.out];go_wp2_with fail;refine (geoSlot_any s c z g _ (by omega) (by omega) (by omega) (by omega)).mono ?_;rintro e w2 ⟨rfl,hb⟩;have HB2:=hid (HB1.out.trans (hb.mono HB1.out.size));clear hb c0 c1 c2;obtain ⟨k,hk0⟩:∃k,slotN s c z=k:=⟨_,rfl⟩;rw [hk0] at hk ⊢;have HK:=hid hk0;clear hk0;go_wp2_with fail;refine (up_any 54 z _ (by omega) (by omega) (by omega) (by omega)).mono ?_;rintro e w' ⟨rfl,rfl⟩;rw [HU.out];go_wp2_with fail;go_ret2;exact ⟨ret2_i (by rw [HK.out];omega),HB2.out⟩
theorem fsize_any (n:Nat)(w:World)(h:n≤32):Calls Tryz.prog 154 #[.int .i64 n] w fun e w'=>e = .returned (.int .i64 ((22+n:Nat):Int))∧w=w':=by
 have h1:¬(n:Int)<0:=by omega
 have h2:¬(32:Int)<(n:Int):=by omega
 go_enter Tryz.func154,Tryz.ntmps154;go_wp2;go_ret;exact ⟨ret1_i (by omega),rfl⟩
def frC (ep:Nat)(x:Fr):List Value:=[.int .u64 ep,.int .u64 x.2.1,x.2.2.1]
theorem own_kept {W W':World}{base:Nat}{e:TypeId}{size:Nat}{v:Value}{k:Nat}{xs:List Value}(h:W.ownsRow base e size v k xs)(hk:∀g cur,v.ownBlock=some g→W.heap[g]?=some (.cells cur e (0,0))→W'.heap[g]?=W.heap[g]?):W'.ownsRow base e size v k xs:=by
 refine ⟨h.1,?_⟩;rcases h.2 with h2 | ⟨g,cap,cur,rfl,hbg,hgb,r⟩
 ·exact Or.inl h2
 ·exact Or.inr ⟨g,cap,cur,rfl,hbg,(hk g cur rfl hgb).trans hgb,r⟩
theorem own_cells {W:World}{base:Nat}{e:TypeId}{size:Nat}{v:Value}{k:Nat}{xs:List Value}(h:W.ownsRow base e size v k xs){g:Nat}(hv:v.ownBlock=some g):base≤g∧ ∃cur,W.heap[g]?=some (.cells cur e (0,0)):=by
 rcases h.2 with ⟨h2,_⟩ | ⟨g',cap,cur,rfl,hbg,hgb,r⟩
 ·rw [h2] at hv;cases hv
 ·injection hv with hv;subst hv;exact ⟨hbg,cur,hgb⟩
def rowAt (O:Nat)(W:World)(r:Nat):Prop:= ∃v,Boxed W O 149 v∧v.ownBlock=some r
theorem rowAt.back {O r:Nat}{W W':World}(h:rowAt O W' r)(e:W'.heap[O]?=W.heap[O]?):rowAt O W r:=by
 obtain ⟨v,h1,h2⟩:=h;exact ⟨v,e.symm.trans h1,h2⟩
structure Kr (O:Nat)(W W':World):Prop where
 size:W.heap.size≤W'.heap.size
 row:∀r,rowAt O W' r→rowAt O W r∨W.heap.size≤r
 keep:∀k c t f,W.heap[k]?=some (.cells c t f)→k≠O→k≠O+1→ ¬rowAt O W k→W'.heap[k]?=some (.cells c t f)
theorem Kr.trans {O:Nat}{a b c:World}(h:Kr O a b)(k:Kr O b c):Kr O a c:=by
 refine ⟨Nat.le_trans h.size k.size,fun r hr=>?_,fun j cs t f hj h1 h2 h3=>?_⟩
 ·rcases k.row r hr with e | e
  ·exact h.row r e
  ·exact Or.inr (Nat.le_trans h.size e)
 ·refine k.keep j cs t f (h.keep j cs t f hj h1 h2 h3) h1 h2 (fun e=>?_);rcases h.row j e with e | e
  ·exact h3 e
  ·have:=heap_lt hj;omega
theorem Kr.put {O:Nat}{W:World}{l:Nat}{o o':Obj}(hO:O<l)(h:W.heap[l]?=some o)(hc:o.isCells=false):Kr O W (W.putObj l o'):=by
 have e:∀k,k≠l→(W.putObj l o').heap[k]?=W.heap[k]? :=fun k hk=>by
  unfold World.putObj;simp [Array.getElem?_setIfInBounds,hk.symm]
 refine ⟨by unfold World.putObj;simp,fun r hr=>Or.inl (hr.back (e O (by omega))),fun k c t f hk _ _ _=>?_⟩;rw [e k (fun e2=>by rw [e2,h] at hk;injection hk with hk;rw [hk] at hc;cases hc)];exact hk
theorem Kr.below {O:Nat}{W W':World}(hO:O<W.heap.size)(h:Below W.heap.size W W'):Kr O W W':=
 ⟨h.size,fun r hr=>Or.inl (hr.back (h.block O hO)),fun k c t f hk _ _ _=>(h.block k (heap_lt hk)).trans hk⟩
def Kq (A B C g O:Nat)(W W':World):Prop:=Kzs (Ek A B C g) W W'∧Kr O W W'
theorem Kq.trans {A B C g O:Nat}{a b c:World}(h:Kq A B C g O a b)(k:Kq A B C g O b c):Kq A B C g O a c:=⟨h.1.trans k.1,h.2.trans k.2⟩
structure Scn (w2:World)(O ep:Nat)(pre:List Fr)(W:World):Prop where
 kp:Kp (fun x=>x=O∨x=O+1) w2 W
 bx:∃v,Boxed W O 149 v∧W.ownsRow w2.heap.size 220 3 v pre.length (pre.flatMap (frC ep))
 nx:∃n:Int,Boxed W (O+1) 3 (.int .i64 n)
 bd:∀x∈pre,frG w2.heap.size x W
theorem frG.kept {base:Nat}{x:Fr}{W W':World}(h:frG base x W)(hk:∀(g:Nat) (cur:Array Value),W.heap[g]?=some (Obj.cells cur 5 (0,0))→W'.heap[g]?=W.heap[g]?):frG base x W':=⟨own_kept h.1 (fun g cur _ e=>hk g cur e),h.2⟩
theorem turned {W W':World}{row:Option Nat}(hg:W.grownBy W' row)(hr:∀r,row=some r→ ∃o:Obj,W.heap[r]?=some o∧o.isCells=false){k:Nat}{c:Array Value}{t:TypeId}{f:Nat×Nat}(h:W.heap[k]?=some (.cells c t f)):W'.heap[k]?=some (.cells c t f):=by
 rw [hg.block k (heap_lt h) (fun e=>?_)]
 ·exact h
 ·obtain ⟨o,ho,hc⟩:=hr k e.symm;rw [h] at ho;cases ho;cases hc
theorem Scn.turn {w2:World}{O ep:Nat}{pre:List Fr}{W W':World}(h:Scn w2 O ep pre W){row:Option Nat}(hg:W.grownBy W' row)(hr:∀r,row=some r→w2.heap.size≤r∧ ∃o:Obj,W.heap[r]?=some o∧o.isCells=false):Scn w2 O ep pre W':=by
 obtain ⟨v,h1,h2⟩:=h.bx;obtain ⟨n,h3⟩:=h.nx;have hr2:=fun r e=>(hr r e).2
 exact ⟨h.kp.grown hg (fun k e=>Or.inr (hr k e).1),⟨v,turned hg hr2 h1,own_turn h2 hg hr2⟩,⟨n,turned hg hr2 h3⟩,fun x hx=>frG.kept (h.bd x hx) (fun g cur e=>(turned hg hr2 e).trans e.symm)⟩
theorem Scn.new {w2:World}{O ep:Nat}{pre:List Fr}{W W':World}(h:Scn w2 O ep pre W)(hb:Below W.heap.size W W'):Scn w2 O ep pre W':=h.turn (belowGrows hb none) (fun r e=>by cases e)
def Gdn (w2:World)(O:Nat)(W:World):Prop:=O+1<w2.heap.size∧w2.heap.size≤W.heap.size∧ ∀r,rowAt O W r→r<W.heap.size
theorem Scn.gd {w2:World}{O ep:Nat}{pre:List Fr}{W:World}(hO:O+1<w2.heap.size)(h:Scn w2 O ep pre W):Gdn w2 O W:=by
 refine ⟨hO,h.kp.size,fun r hr=>?_⟩;obtain ⟨v,h1,h2⟩:=h.bx;obtain ⟨v',h1',h3⟩:=hr;have:v'=v:=by
  have e:=h1.symm.trans h1';injection e with e;injection e with e;injection e with e;injection e with e;exact e.symm
 subst this;obtain ⟨_,cur,hc⟩:=own_cells h2 h3;exact heap_lt hc
theorem Gdn.fresh {w2:World}{O A B C g:Nat}(W:World)(c:Array Value)(t:TypeId)(W':World)(h:Gdn w2 O W)(hk:Kq A B C g O (W.alloc (.cells c t)) W'):W'.heap[W.heap.size]?=some (.cells c t):=by
 have N:=new1 W (.cells c t);obtain ⟨h1,h2,h3⟩:=h;refine hk.2.keep _ _ _ _ N.1 (by omega) (by omega) (fun e=>?_);have:=h3 _ (e.back (N.2.2.block O (by omega)));omega
theorem scan_tail {w2 W W1 w4:World}{O ep A B C g rn g9 cap9:Nat}{PL:List Fr}{x:Fr}{oa:Option Addr}{n9:Int}(hO:O+1<w2.heap.size)(hI:Scn w2 O ep PL W)(hx:frG w2.heap.size x W)(hbx:Boxed W O 149 (.slice oa PL.length rn))(hown:W.ownsRow w2.heap.size 220 3 (.slice oa PL.length rn) PL.length (PL.flatMap (frC ep)))(hXB:Below W.heap.size W W1)(hXS:W1.heap.size=W.heap.size+1)(hown4:w4.ownsRow w2.heap.size 220 3 (.slice (some ⟨g9,0,none⟩) (PL.length+1) cap9) (PL.length+1) (PL.flatMap (frC ep)++frC ep x))(hgrow:W1.grownBy w4 (Value.slice oa PL.length rn).ownBlock)(hat:(Value.slice oa PL.length rn).ownBlock = some g9∨g9=W.heap.size+1)(hE:∀k,Ek A B C g k→k<w2.heap.size∧k≠O∧k≠O+1):
 Boxed w4 O 149 (.slice oa PL.length rn)∧(∃n:Int,Boxed w4 (O+1) 3 (.int .i64 n))∧(∀k,k<W.heap.size→(Value.slice oa PL.length rn).ownBlock ≠some k→w4.heap[k]?=W.heap[k]?)∧
 (KeepsFrom w2.heap.size W ((w4.setCell ⟨O,0,none⟩ (.slice (some ⟨g9,0,none⟩) (PL.length+1) cap9)).setCell ⟨O+1,0,none⟩ (.int .i64 n9))∧Kq A B C g O W ((w4.setCell ⟨O,0,none⟩ (.slice (some ⟨g9,0,none⟩) (PL.length+1) cap9)).setCell ⟨O+1,0,none⟩ (.int .i64 n9))∧Scn w2 O ep (PL++[x]) ((w4.setCell ⟨O,0,none⟩ (.slice (some ⟨g9,0,none⟩) (PL.length+1) cap9)).setCell ⟨O+1,0,none⟩ (.int .i64 n9))):=by
 have hsz:=hI.kp.size;have hw4s:W1.heap.size≤w4.heap.size:=hgrow.size;have hrow:=fun {r:Nat} (hr:(Value.slice oa PL.length rn).ownBlock = some r)=>own_cells hown hr
 have hold:∀k,k<W.heap.size→(Value.slice oa PL.length rn).ownBlock ≠some k→w4.heap[k]?=W.heap[k]? :=fun k hk hn=>(hgrow.block k (by omega) (fun e=>hn e.symm)).trans (hXB.block k hk)
 have hsm:∀k,k<w2.heap.size→(Value.slice oa PL.length rn).ownBlock ≠some k:=fun k hk e=>by have:=(hrow e).1;omega
 have hb4:Boxed w4 O 149 (.slice oa PL.length rn):=(hold O (by omega) (hsm O (by omega))).trans hbx;obtain ⟨n0,hn0⟩:=hI.nx;have hn4:Boxed w4 (O+1) 3 (.int .i64 n0):=(hold (O+1) (by omega) (hsm _ hO)).trans hn0;refine ⟨hb4,⟨n0,hn4⟩,hold,?_⟩;obtain ⟨V,hV⟩:∃V,Value.slice (some ⟨g9,0,none⟩) (PL.length+1) cap9=V:=⟨_,rfl⟩;have hVb:V.ownBlock=some g9:=by rw [←hV];rfl
 rw [hV] at hown4 ⊢;obtain ⟨Wf,hWf⟩:∃Wf,(w4.setCell ⟨O,0,none⟩ V).setCell ⟨O+1,0,none⟩ (.int .i64 n9)=Wf:=⟨_,rfl⟩;have hset:∀k,k≠O→k≠O+1→Wf.heap[k]?=w4.heap[k]? :=fun k h1 h2=>by
  rw [←hWf];exact (heap_setCell_ne _ (p:=⟨O+1,0,none⟩) _ h2).trans (heap_setCell_ne _ (p:=⟨O,0,none⟩) _ h1)
 have hfO:Boxed Wf O 149 V:=by
  rw [←hWf];exact (heap_setCell_ne _ (p:=⟨O+1,0,none⟩) _ (by show O≠O+1;omega)).trans (hb4.set V)
 have hfN:Boxed Wf (O+1) 3 (.int .i64 n9):=by
  rw [←hWf];have e:Boxed (w4.setCell ⟨O,0,none⟩ V) (O+1) 3 (.int .i64 n0):=(heap_setCell_ne _ (p:=⟨O,0,none⟩) _ (by show O+1≠O;omega)).trans hn4;exact e.set _
 have hfs:Wf.heap.size=w4.heap.size:=by rw [←hWf,World.size_setCell,World.size_setCell]
 have hall:∀k,k<W.heap.size→(Value.slice oa PL.length rn).ownBlock ≠some k→k≠O→k≠O+1→Wf.heap[k]?=W.heap[k]? :=fun k hk hn h1 h2=>(hset k h1 h2).trans (hold k hk hn)
 have hg9:∀r,rowAt O Wf r→rowAt O W r∨W.heap.size≤r:=by
  rintro r ⟨v',h1,h2⟩;have e:=hfO.symm.trans h1;injection e with e;injection e with e;injection e with e;injection e with e;subst e;rw [hVb] at h2;injection h2 with h2;subst h2;rcases hat with e | e
  ·exact Or.inl ⟨_,hbx,e⟩
  ·exact Or.inr (by omega)
 rw [hWf];have hkp:Kp (fun x=>x=O∨x=O+1) w2 Wf:=by
  have k1:=(hI.kp.trans (Kp.of_new hXB)).grown hgrow (fun r e=>Or.inr (hrow e).1);have k2:=(k1.setCell (p:=⟨O,0,none⟩) (Or.inl rfl) V).setCell (p:=⟨O+1,0,none⟩) (Or.inr rfl) (.int .i64 n9);rw [hWf] at k2;exact k2
 refine ⟨⟨by omega,fun k o hk ho hc=>?_⟩,⟨⟨fun k hk=>?_,by omega⟩,⟨by omega,hg9,fun k c t f hk h1 h2 h3=>?_⟩⟩,⟨hkp,⟨V,hfO,?_⟩,⟨n9,hfN⟩,fun y hy=>?_⟩⟩
 ·rw [hall k (heap_lt ho) (fun e=>?_) (by omega) (by omega)]
  ·exact ho
  ·obtain ⟨_,cur,h9⟩:=hrow e;rw [ho] at h9;cases h9;cases hc
 ·obtain ⟨h1,h2,h3⟩:=hE k hk;exact hall k (by omega) (hsm k h1) h2 h3
 ·rw [hall k (heap_lt hk) (fun e=>h3 ⟨_,hbx,e⟩) h1 h2];exact hk
 ·rw [List.length_append,List.flatMap_append];have e:[x].flatMap (frC ep)=frC ep x:=by simp
  rw [e];refine own_kept hown4 (fun r cur hr he=>hset r ?_ ?_)
  ·rintro rfl;rw [hb4] at he;injection he with he;injection he with _ he _;cases he
  ·rintro rfl;rw [hn4] at he;injection he with he;injection he with _ he _;cases he
 ·have hky:frG w2.heap.size y W:=by
   rcases List.mem_append.1 hy with h | h
   ·exact hI.bd y h
   ·rw [List.mem_singleton.1 h];exact hx
  refine frG.kept hky (fun r cur he=>hall r (heap_lt he) (fun e=>?_) ?_ ?_)
  ·obtain ⟨_,cur',h9⟩:=hrow e;rw [he] at h9;injection h9 with h9;injection h9 with _ h9 _;cases h9
  ·rintro rfl;rw [show W.heap[r]?=_ from hbx] at he;injection he with he;injection he with _ he _;cases he
  ·rintro rfl;rw [show W.heap[O+1]?=_ from hn0] at he;injection he with he;injection he with _ he _;cases he
end
end Go.Proofs.YtdjiopacieadpaaGreatDoor
