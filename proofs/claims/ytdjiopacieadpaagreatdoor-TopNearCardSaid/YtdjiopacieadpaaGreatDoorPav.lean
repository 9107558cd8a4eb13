/- TopNear: part Pav: ImA Rpy Rpl. -/
import Derived.Test.YtdjiopacieadpaaGreatDoorPau
set_option linter.unusedVariables false
set_option linter.unusedSimpArgs false
set_option maxRecDepth 8000
set_option maxHeartbeats 8000000
namespace Go.Proofs.YtdjiopacieadpaaGreatDoor
section
open Go.RowKit BookPlain
def im14 (x:Bo):List Nat:=le x.1 4++le x.2.1 2++le x.2.2 8
def imHead (b:Bk):List Nat:=le b.s 2++le b.c 4++le b.next 4++le b.clock 8++le (nT b.l) 2
def imgF (b:Bk):List Nat:=imHead b++(listB b).flatMap im14
structure Ipt (w:World)(p:Nat)(F:Nat→Prop)(K:Nat)(b:Bk)(P0 Sb:Nat)(l:List Nat)(W:World):Prop where
 wr:Wr W P0 l
 bk:Bkk W p F K b
 bel:Below w.heap.size w W
 ge:w.heap.size≤P0∧P0<Sb
 sh:W.heap[Sb]?=some (Obj.cells #[.int .i64 b.s,.int .i64 b.c,.int .i64 b.g] 23 (0,0))
 len:l.length≤50000
theorem Ipt.step {w:World}{p:Nat}{F:Nat→Prop}{K:Nat}{b:Bk}{P0 Sb:Nat}{l l':List Nat}{W W':World}(h:Ipt w p F K b P0 Sb l W)(hF:∀x,F x→x<w.heap.size)(hw:Wr W' P0 l')(hk:Kp (· = P0) W W')(hl:l'.length≤50000):Ipt w p F K b P0 Sb l' W':=
 ⟨hw,h.bk.stay hk (fun x hx e=>by have:=hF x hx;have:=h.ge.1;omega),h.bel.trans (hk.below h.bel.size (fun y e=>by have e':y=P0:=e;have:=h.ge.1;omega)),h.ge,hk.blk h.sh (by have:=h.ge.2;omega),hl⟩
theorem Ipt.new {w:World}{p:Nat}{F:Nat→Prop}{K:Nat}{b:Bk}{P0 Sb:Nat}{l:List Nat}{W W':World}(h:Ipt w p F K b P0 Sb l W)(hb:Below W.heap.size W W'):Ipt w p F K b P0 Sb l W':=
 ⟨h.wr.below hb (Nat.le_refl _),h.bk.new hb,h.bel.trans (hb.mono h.bel.size),h.ge,Bl.blk hb h.sh,h.len⟩
theorem kshape (p:Nat)(F:Nat→Prop)(K:Nat)(b:Bk)(w:World)(h:Bkk w p F K b):Calls Tryz.prog 60 #[.pointer (some ⟨p,0,none⟩)] w fun e w'=>e = .returned (.agg #[.int .i64 b.s,.int .i64 b.c,.int .i64 b.g])∧Below w.heap.size w w':=by
 obtain ⟨m,hw,hr,rfl,rfl,_⟩:=h;rw [←hr.s,←hr.c,←hr.g];exact shape_any m w hw
theorem knext (p:Nat)(F:Nat→Prop)(K:Nat)(b:Bk)(w:World)(h:Bkk w p F K b):Calls Tryz.prog 61 #[.pointer (some ⟨p,0,none⟩)] w fun e w'=>e = .returned (.int .u32 b.next)∧w=w':=by
 obtain ⟨m,hw,hr,rfl,rfl,_⟩:=h;rw [←hr.nx];exact next_any m w hw
theorem kclock (p:Nat)(F:Nat→Prop)(K:Nat)(b:Bk)(w:World)(h:Bkk w p F K b):Calls Tryz.prog 62 #[.pointer (some ⟨p,0,none⟩)] w fun e w'=>e = .returned (.int .i64 b.clock)∧w=w':=by
 obtain ⟨m,hw,hr,rfl,rfl,_⟩:=h;rw [←hr.q];exact clock_any m w hw
theorem klen (p:Nat)(F:Nat→Prop)(K:Nat)(b:Bk)(w:World)(h:Bkk w p F K b):Calls Tryz.prog 63 #[.pointer (some ⟨p,0,none⟩)] w fun e w'=>e = .returned (.int .i64 (nT b.l:Int))∧w=w':=by
 obtain ⟨m,hw,hr,rfl,rfl,_⟩:=h;rw [←hr.ln];exact len_any m w hw
theorem ipt_two {w:World}{p:Nat}{F:Nat→Prop}{K:Nat}{b:Bk}{P0 Sb:Nat}{l:List Nat}{W:World}(h:Ipt w p F K b P0 Sb l W)(hF:∀x,F x→x<w.heap.size)(n:Nat)(hn:n<65536)(hl:l.length≤40000):Calls Tryz.prog 48 #[.pointer (some ⟨P0,0,none⟩),.int .u16 n] W fun e W'=>e = .returned (.tuple #[])∧Ipt w p F K b P0 Sb (l++le n 2) W'∧Kp (· = P0) W W':=by
 refine (two_any P0 l n W h.wr hn (by omega)).mono ?_;rintro e W' ⟨rfl,h1,h2⟩;exact ⟨rfl,h.step hF h1 h2 (by rw [List.length_append,le_len];omega),h2⟩
theorem ipt_four {w:World}{p:Nat}{F:Nat→Prop}{K:Nat}{b:Bk}{P0 Sb:Nat}{l:List Nat}{W:World}(h:Ipt w p F K b P0 Sb l W)(hF:∀x,F x→x<w.heap.size)(n:Nat)(hn:n<4294967296)(hl:l.length≤40000):Calls Tryz.prog 46 #[.pointer (some ⟨P0,0,none⟩),.int .u32 n] W fun e W'=>e = .returned (.tuple #[])∧Ipt w p F K b P0 Sb (l++le n 4) W'∧Kp (· = P0) W W':=by
 refine (four_any P0 l n W h.wr hn (by omega)).mono ?_;rintro e W' ⟨rfl,h1,h2⟩;exact ⟨rfl,h.step hF h1 h2 (by rw [List.length_append,le_len];omega),h2⟩
theorem ipt_eight {w:World}{p:Nat}{F:Nat→Prop}{K:Nat}{b:Bk}{P0 Sb:Nat}{l:List Nat}{W:World}(h:Ipt w p F K b P0 Sb l W)(hF:∀x,F x→x<w.heap.size)(n:Nat)(hn:n<18446744073709551616)(hl:l.length≤40000):Calls Tryz.prog 49 #[.pointer (some ⟨P0,0,none⟩),.int .u64 n] W fun e W'=>e = .returned (.tuple #[])∧Ipt w p F K b P0 Sb (l++le n 8) W'∧Kp (· = P0) W W':=by
 refine (eight_any P0 l n W h.wr hn (by omega)).mono ?_;rintro e W' ⟨rfl,h1,h2⟩;exact ⟨rfl,h.step hF h1 h2 (by rw [List.length_append,le_len];omega),h2⟩
def runF:Bk→List (List Nat)→Bk×Nat
 | b,[]=>(b,0)
 | b,x::l=>match recG x with
  | none=>(b,0)
  | some r=>if (applyN b r.k.toNat r.id.toNat r.s.toNat r.u.toNat r.q.toNat).2=0 then ((runF (applyN b r.k.toNat r.id.toNat r.s.toNat r.u.toNat r.q.toNat).1 l).1,(runF (applyN b r.k.toNat r.id.toNat r.s.toNat r.u.toNat r.q.toNat).1 l).2+1)
   else ((applyN b r.k.toNat r.id.toNat r.s.toNat r.u.toNat r.q.toNat).1,0)
theorem rec_nat {x:List Nat}{r:Rec}(h:recG x=some r):∃k i s u q:Nat,r=⟨k,i,s,u,q⟩∧okB ⟨k,i,s,u,q⟩=true∧u≤M∧q≤M:=by
 unfold recG at h;split at h
 ·rename_i hh;injection h with h;rw [h] at hh;have ho:=hh.2;have ho2:=ho;unfold okB at ho;simp only [Bool.and_eq_true] at ho;obtain ⟨h1,h2,h3,h4,h5⟩:=ho;have hk:1≤r.k∧r.k≤5:=of_decide_eq_true h1;have hin:∀(t:Bool) (n:Int) (a c:Int),withinB t n a c=true→0≤a→0≤n∧(n≤c∨n=0):=by
   intro t n a c hh ha;unfold withinB at hh;cases t with
   | true=>rw [if_pos rfl] at hh;have:=of_decide_eq_true hh;omega
   | false=>rw [if_neg (by decide)] at hh;have:=of_decide_eq_true hh;omega
  have b2:=hin _ _ _ _ h2 (by omega);have b3:=hin _ _ _ _ h3 (by omega);have b4:=hin _ _ _ _ h4 (by omega);have b5:=hin _ _ _ _ h5 (by omega);have hM:M=1099511627776:=rfl;have er:r=⟨(r.k.toNat:Int),(r.id.toNat:Int),(r.s.toNat:Int),(r.u.toNat:Int),(r.q.toNat:Int)⟩:=by
   rw [Int.toNat_of_nonneg (by omega:0≤r.k),Int.toNat_of_nonneg b2.1,Int.toNat_of_nonneg b3.1,Int.toNat_of_nonneg b4.1,Int.toNat_of_nonneg b5.1]
  exact ⟨r.k.toNat,r.id.toNat,r.s.toNat,r.u.toNat,r.q.toNat,er,by rw [←er];exact ho2,by omega,by omega⟩
 ·cases h
theorem runF_sound:∀(l:List (List Nat)) (b:Bk),Sound b→Sound (runF b l).1
 | [],b,h=>h
 | x::l,b,h=>by
  unfold runF;cases hr:recG x with
  | none=>exact h
  | some r=>
   obtain ⟨k,i,s,u,q,rfl,_,hu,hq⟩:=rec_nat hr;have ha:=applyN_sound h k i s u q hu hq;dsimp only;simp only [Int.toNat_natCast];split
   ·exact runF_sound l _ ha
   ·exact ha
theorem runF_shape:∀(l:List (List Nat)) (b:Bk),(runF b l).1.s = b.s∧(runF b l).1.c = b.c∧(runF b l).1.g = b.g
 | [],b=>⟨rfl,rfl,rfl⟩
 | x::l,b=>by
  unfold runF;cases hr:recG x with
  | none=>exact ⟨rfl,rfl,rfl⟩
  | some r=>
   have ha:=applyN_shape b r.k.toNat r.id.toNat r.s.toNat r.u.toNat r.q.toNat;dsimp only;split
   ·have h2:=runF_shape l (applyN b r.k.toNat r.id.toNat r.s.toNat r.u.toNat r.q.toNat).1;exact ⟨h2.1.trans ha.1,h2.2.1.trans ha.2.1,h2.2.2.trans ha.2.2⟩
   ·exact ha
theorem runF_le:∀(l:List (List Nat)) (b:Bk),(runF b l).2≤l.length
 | [],b=>Nat.le_refl _
 | x::l,b=>by
  unfold runF;cases hr:recG x with
  | none=>exact Nat.zero_le _
  | some r=>
   dsimp only;split
   ·have h2:=runF_le l (applyN b r.k.toNat r.id.toNat r.s.toNat r.u.toNat r.q.toNat).1;show _+1≤l.length+1
    omega
   ·exact Nat.zero_le _
def Frp (F:Nat→Prop)(v:Value)(xs:List Fr):Prop:= ∀b,F b→v.ownBlock≠some b∧ ∀x∈xs,x.2.2.1.ownBlock≠some b
theorem Frs.stay {base ep:Nat}{v:Value}{xs:List Fr}{w w':World}{F:Nat→Prop}(h:Frs base ep v xs w)(hk:Kp F w w')(hF:Frp F v xs):Frs base ep v xs w':=
 ⟨own_kp h.1 hk (fun b e f=>(hF b f).1 e),fun x hx=>⟨own_kp (h.2 x hx).1 hk (fun b e f=>(hF b f).2 x hx e),(h.2 x hx).2⟩⟩
def RRun (w:World)(p:Nat)(F:Nat→Prop)(K:Nat)(b:Bk)(l:List (List Nat))(e:Ending)(w':World):Prop:=
 ∃F',∃er:Int,e = .returned (.tuple #[.int .i64 ((runF b l).2:Int),.int .i64 er])∧Bkk w' p F' (K+2*l.length) (runF b l).1∧Step F F' w w'
theorem frC_get (ep:Nat):∀(L:List Fr) (i j:Nat),j<3→(L.flatMap (frC ep))[i*3+j]?=(L[i]?).bind (fun s=>(frC ep s)[j]?)
 | [],i,j,hj=>by simp
 | s::L,0,j,hj=>by
  simp only [List.flatMap_cons,Nat.zero_mul,Nat.zero_add,List.getElem?_cons_zero,Option.bind_some];rw [List.getElem?_append_left (by simp [frC];omega)]
 | s::L,i+1,j,hj=>by
  simp only [List.flatMap_cons,List.getElem?_cons_succ];rw [List.getElem?_append_right (by simp [frC];omega),show (i+1)*3+j-(frC ep s).length = i*3+j by simp [frC];omega];exact frC_get ep L i j hj
theorem Frs.at {base ep:Nat}{v:Value}{xs:List Fr}{w:World}(h:Frs base ep v xs w){i:Nat}{x:Fr}(hx:xs[i]?=some x):∃g cap,v = .slice (some ⟨g,0,none⟩) xs.length cap∧g<w.heap.size∧w.cell? ⟨g,i*3,none⟩=some (.int .u64 ep)∧w.cell? ⟨g,i*3+1,none⟩=some (.int .u64 x.2.1)∧w.cell? ⟨g,i*3+2,none⟩=some x.2.2.1:=by
 have hil:=(List.getElem?_eq_some_iff.1 hx).1;rcases h.1.2 with ⟨rfl,h0⟩ | ⟨g,cap,cur,rfl,hb,hg,h1,h2,h3,h4⟩
 ·omega
 ·have get:∀j,j<3→w.cell? ⟨g,i*3+j,none⟩=(frC ep x)[j]? :=by
   intro j hj;rw [(blk hg).1 (i*3+j)];have e:cur[i*3+j]?=(cur.toList.take (xs.length*3))[i*3+j]? :=by
    rw [List.getElem?_take,if_pos (by omega)];simp
   rw [e,h4,frC_get ep xs i j hj,hx];rfl
  exact ⟨g,cap,rfl,heap_lt hg,get 0 (by omega),get 1 (by omega),get 2 (by omega)⟩
theorem Frs.lt {base ep:Nat}{v:Value}{xs:List Fr}{w:World}(h:Frs base ep v xs w):∀b,w.heap.size≤b→v.ownBlock≠some b∧ ∀x∈xs,x.2.2.1.ownBlock≠some b:=by
 intro b hb;refine ⟨fun e=>?_,fun x hx e=>?_⟩
 ·obtain ⟨_,cur,hc⟩:=own_cells h.1 e;have:=heap_lt hc;omega
 ·obtain ⟨_,cur,hc⟩:=own_cells (h.2 x hx).1 e;have:=heap_lt hc;omega
theorem Frp.step {base ep:Nat}{v:Value}{xs:List Fr}{w w':World}{F F':Nat→Prop}(h:Frp F v xs)(hs:Frs base ep v xs w)(hst:Step F F' w w'):Frp F' v xs:=fun b hb=>(hst.sub b hb).elim (fun e=>h b e) (fun e=>hs.lt b e)
theorem run_step {b:Bk}{x:List Nat}{l:List (List Nat)}{k i s u q:Nat}(hr:recG x=some ⟨k,i,s,u,q⟩):runF b (x::l)=if (applyN b k i s u q).2=0 then ((runF (applyN b k i s u q).1 l).1,(runF (applyN b k i s u q).1 l).2+1) else ((applyN b k i s u q).1,0):=by
 show (match recG x with | none=>(b,0) | some r=>_)=_
 rw [hr];simp only [Int.toNat_natCast]
theorem run_stop {b:Bk}{x:List Nat}{l:List (List Nat)}(hr:recG x=none):runF b (x::l)=(b,0):=by
 show (match recG x with | none=>(b,0) | some r=>_)=_
 rw [hr]
theorem rrun_any (p:Nat)(F:Nat→Prop)(K:Nat)(b:Bk)(base ep:Nat)(v:Value)(xs:List Fr)(w:World)(h:Bkk w p F K b)(hs:Sound b)(hK:K+2*xs.length≤5000)(hf:Frs base ep v xs w)(hF:Frp F v xs):
 Calls Tryz.prog 58 #[.pointer (some ⟨p,0,none⟩),v] w (RRun w p F K b (xs.map (fun x=>x.2.2.2))):=by
 obtain ⟨oa,cap,rfl,_,_⟩:=own_form hf.1;have HSH:=hid (kshape p F K b w h);have hb0:¬((b.s:Int)=0):=by have:=hs.hs;omega
 have hfl:=h.flt;have H:=hid h;have HS:=hid hs;have HF:=hid hf;have HFF:=hid hF;have HKK:=hid hK;have HFL:=hid hfl;have hxl:xs.length≤5000:=by omega
 obtain ⟨bs,hbs⟩:∃bs,xs.map (fun x=>x.2.2.2)=bs:=⟨_,rfl⟩;have HBS:=hid hbs;rw [hbs];clear h hs hf hF hK hfl hbs;go_enter Tryz.func58,Tryz.ntmps58;go_wp2_with fail;refine HSH.out.mono ?_;rintro e w1 ⟨rfl,hb1⟩;have HB1:=hid hb1;clear hb1;go_wp2_with fail;go_loopw [16] (fun i wr=> ∃(k:Nat) (b':Bk) (F':Nat→Prop),i = .int .i64 k∧k≤xs.length∧Bkk wr p F' (K+2*k) b'∧Sound b'∧Step F F' w wr∧Frs base ep (.slice oa xs.length cap) xs wr∧(runF b bs).1=(runF b' (bs.drop k)).1∧(runF b bs).2=(runF b' (bs.drop k)).2+k) (fun i wr=>xs.length-(intOf i).toNat)
 case atStart=>exact ⟨0,b,F,rfl,Nat.zero_le _,H.out.new HB1.out,HS.out,Step.new HB1.out HFL.out,HF.out.stay (F:=nob) (Kp.of_new HB1.out) (fun _ h=>h.elim),rfl,rfl⟩
 case round=>
  obtain ⟨k,b',F',rfl,hk,hB,hS,hst,hfr,hr1,hr2⟩:=hrel;by_cases hlt:k<xs.length
  ·have hkI:(k:Int)<(xs.length:Int):=by omega
   obtain ⟨x,hx⟩:∃x,xs[k]?=some x:=⟨_,List.getElem?_eq_getElem hlt⟩;obtain ⟨g,cap',e9,hgl,d0,d1,d2⟩:=hfr.at hx;injection e9 with e1 e2 e3;subst e1 e3;clear e2;have hxm:x∈xs:=List.mem_of_getElem? hx;obtain ⟨hxo,hx32,_,hxb⟩:=hfr.2 x hxm;have hdr:bs.drop k=x.2.2.2::bs.drop (k+1):=by
    have hb:bs[k]?=some x.2.2.2:=by rw [←HBS.out,List.getElem?_map,hx];rfl
    obtain ⟨hbl,hbe⟩:=List.getElem?_eq_some_iff.1 hb;rw [List.drop_eq_getElem_cons hbl,hbe]
   obtain ⟨x1,x2,x3,x4⟩:=x;dsimp only at d1 d2 hxo hx32 hxb hdr;obtain ⟨xa,xc,rfl,_,_⟩:=own_form hxo;obtain ⟨W1,hW1⟩:∃W1,wr.alloc (.cells #[.int .u64 ep,.int .u64 x2,.slice xa x4.length xc] 220)=W1:=⟨_,rfl⟩;have N1:=new1 wr (.cells #[.int .u64 ep,.int .u64 x2,.slice xa x4.length xc] 220);rw [hW1] at N1;have HG:=hid (recget_any (.slice xa x4.length xc) x4 W1 (Sl_of_own (own_below hxo N1.2.2 (Nat.le_refl _))) hxb (by omega));obtain ⟨v0,_,v1,_,v2,_⟩:=cells3 N1.1;have HDR:=hid hdr;have HN1:=hid N1;have HB:=hid hB;have HSO:=hid hS;have HST:=hid hst;have HFR:=hid hfr;have HR:=hid (And.intro hr1 hr2);clear hdr N1 hB hS hst hfr hr1 hr2 hxo hx hxm;go_wp2_with fail;refine HG.out.mono ?_;rintro e w2 ⟨r,fe,rfl,hrec,hb2⟩;have hb3:Below wr.heap.size wr w2:=HN1.out.2.2.trans (hb2.mono HN1.out.2.2.size);rcases hrec with ⟨hrec,rfl⟩ | ⟨hrec,hfe⟩
   ·obtain ⟨rk,ri,rs,ru,rq,rfl,hok,hu,hq⟩:=rec_nat hrec;dsimp only [Rec.cells];obtain ⟨W3,hW3⟩:∃W3,w2.alloc (.cells #[.int .i64 rk,.int .u32 ri,.int .i64 rs,.int .i64 ru,.int .i64 rq] 223)=W3:=⟨_,rfl⟩;have N3:=new1 w2 (.cells #[.int .i64 rk,.int .u32 ri,.int .i64 rs,.int .i64 ru,.int .i64 rq] 223);rw [hW3] at N3;have hb4:Below wr.heap.size wr W3:=hb3.trans (N3.2.2.mono hb3.size);obtain ⟨u0,_,u1,_,u2,_,u3,_,u4,_⟩:=cells5 N3.1;have HA:=hid (bapply_any p F' (K+2*k) b' rk ri rs ru rq W3 (HB.out.new hb4) HSO.out (by have:=HKK.out;omega) hok);have HB4:=hid hb4;have HREC:=hid hrec;have HUQ:=hid (And.intro hu hq);clear v0 v1 v2 N3 hb4 hb3 hb2 hrec hok;go_wp2_with fail;refine HA.out.mono ?_;rintro e w4 ⟨F4,rfl,hB4,hst4⟩;obtain ⟨ae,hae⟩:∃ae,(applyN b' rk ri rs ru rq).2=ae:=⟨_,rfl⟩;rw [hae];have hstep:Step F F4 w w4:=(HST.out.below HB4.out).trans hst4;have hFp:Frp F' (.slice (some ⟨g,0,none⟩) xs.length cap) xs:=HFF.out.step HF.out HST.out;have hfr4:=(HFR.out.stay (F:=nob) (Kp.of_new HB4.out) (fun _ h=>h.elim)).stay hst4.kp hFp;have hrs:=run_step (b:=b') (l:=bs.drop (k+1)) HREC.out;rw [hae] at hrs;obtain ⟨hr1,hr2⟩:=HR.out;rw [HDR.out,hrs] at hr1 hr2;have hS4:=applyN_sound HSO.out rk ri rs ru rq HUQ.out.1 HUQ.out.2;generalize (applyN b' rk ri rs ru rq).1=b4 at *;by_cases ha0:ae=0
    ·subst ha0;rw [if_pos rfl] at hr1 hr2;dsimp only at hr1 hr2;have HE:=hid (And.intro hB4 (And.intro hS4 (And.intro hstep (And.intro hfr4 (And.intro hr1 (show (runF b bs).2=(runF b4 (bs.drop (k+1))).2+(k+1) by omega))))));clear hB4 hS4 hstep hfr4 hr1 hr2 hrs hst4 hFp u0 u1 u2 u3 u4;go_wp2_with fail;go_roundw;case rel=>exact ⟨k+1,b4,F4,by go_num,by omega,by rw [show K+2*(k+1)=K+2*k+2 by omega];exact HE.out.1,HE.out.2.1,HE.out.2.2.1,HE.out.2.2.2.1,HE.out.2.2.2.2.1,HE.out.2.2.2.2.2⟩
     case measure=>simp [intOf];omega
    ·have haI:¬((ae:Int)=0):=by omega
     rw [if_neg ha0] at hr1 hr2;dsimp only at hr1 hr2;have HE:Hid (RRun w p F K b bs (.returned (.tuple #[.int .i64 k,.int .i64 ae])) w4):=hid ⟨F4,_,by rw [hr2,Nat.zero_add],by rw [hr1];exact hB4.more (by rw [←HBS.out,List.length_map];omega),hstep⟩;clear hB4 hS4 hstep hfr4 hr1 hr2 hrs hst4 hFp u0 u1 u2 u3 u4;go_wp2_with fail;go_ret2;exact HE.out
   ·have hrs:=run_stop (b:=b') (l:=bs.drop (k+1)) hrec;obtain ⟨hr1,hr2⟩:=HR.out;rw [HDR.out,hrs] at hr1 hr2;dsimp only at hr1 hr2;obtain ⟨rk,ri,rs,ru,rq⟩:=r;dsimp only [Rec.cells];obtain ⟨W3,hW3⟩:∃W3,w2.alloc (.cells #[.int .i64 rk,.int .u32 ri,.int .i64 rs,.int .i64 ru,.int .i64 rq] 223)=W3:=⟨_,rfl⟩;have N3:=new1 w2 (.cells #[.int .i64 rk,.int .u32 ri,.int .i64 rs,.int .i64 ru,.int .i64 rq] 223);rw [hW3] at N3;have hb4:Below wr.heap.size wr W3:=hb3.trans (N3.2.2.mono hb3.size);have HE:Hid (RRun w p F K b bs (.returned (.tuple #[.int .i64 k,.int .i64 fe])) W3):=hid ⟨F',_,by rw [hr2,Nat.zero_add],by rw [hr1];exact (HB.out.new hb4).more (by rw [←HBS.out,List.length_map];omega),HST.out.below hb4⟩;clear v0 v1 v2 N3 hb4 hb3 hb2 hrec hr1 hr2 hrs;go_wp2_with fail;go_ret2;exact HE.out
  ·have hkI:¬(k:Int)<(xs.length:Int):=by omega
   have hdr:bs.drop k=[]:=by rw [List.drop_eq_nil_iff,←HBS.out,List.length_map];omega
   rw [hdr] at hr1 hr2;have hke:k=xs.length:=by omega
   have HE:Hid (RRun w p F K b bs (.returned (.tuple #[.int .i64 xs.length,.int .i64 0])) wr):=hid ⟨F',0,by rw [hr2];show _=Ending.returned (.tuple #[.int .i64 ((0+k:Nat):Int),_]);rw [Nat.zero_add,hke],by rw [hr1];exact hB.more (by rw [←HBS.out,List.length_map];omega),hst⟩;clear hB hS hst hfr hr1 hr2 hdr;go_wp2_with fail;go_ret2;exact HE.out
end
section
open Go.RowKit
open BookPlain (Rp)
def fldL:List Nat:=[0,5,0,0,2,6,5,4,8,8,8]
def Fld (w:World):Prop:= ∀i x:Nat,fldL[i]?=some x→w.cell? ⟨0,i,none⟩=some (.int .i64 x)
theorem Fld.kp {w w':World}{F:Nat→Prop}(h:Fld w)(hk:Kp F w w')(hw:0<w.heap.size)(hF:¬F 0):Fld w':=fun i x hi=>by rw [hk.cell (p:=⟨0,i,none⟩) hw hF];exact h i x hi
theorem Fld.below {w w':World}{B:Nat}(h:Fld w)(hb:Below B w w')(hB:0<B):Fld w':=fun i x hi=>by rw [hb.cell (p:=⟨0,i,none⟩) hB];exact h i x hi
structure Glb (w:World):Prop where
 tab:Tab w
 fld:Fld w
theorem Glb.size {w:World}(h:Glb w):1<w.heap.size:=h.tab.size
theorem Glb.kp {w w':World}{F:Nat→Prop}(h:Glb w)(hk:Kp F w w')(hF:∀b,F b→1<b):Glb w':=
 ⟨h.tab.kp hk (fun e=>by have:=hF 1 e;omega),h.fld.kp hk (by have:=h.size;omega) (fun e=>by have:=hF 0 e;omega)⟩
theorem Glb.below {w w':World}{B:Nat}(h:Glb w)(hb:Below B w w')(hB:1<B):Glb w':=⟨h.tab.below hb hB,h.fld.below hb (by omega)⟩
theorem Glb.new {w w':World}(h:Glb w)(hb:Below w.heap.size w w'):Glb w':=h.below hb h.size
def maskF (k e:Nat):Nat:=if e=0 then fldL.getD k 0 else 0
theorem repof_any (k e:Nat)(w:World)(hk:k≤10)(hT:Glb w):Calls Tryz.prog 34 #[.int .i64 k,.int .i64 e] w fun o w'=>o = .returned (.int .i64 (maskF k e:Int))∧w=w':=by
 by_cases he:e=0
 ·subst he;have hm:maskF k 0=fldL.getD k 0:=by unfold maskF;rw [if_pos rfl]
  rw [hm];have hl:fldL[k]?=some (fldL.getD k 0):=by rw [List.getD_eq_getElem?_getD,List.getElem?_eq_getElem (by show k<11;omega)];rfl
  have hc:=hT.fld k _ hl;have h1:¬(k:Int)<0:=by omega
  have h2:¬(11:Int)≤(k:Int):=by omega
  have h3:(k:Int)<11:=by omega
  generalize fldL.getD k 0=m at hc ⊢;clear hm hl hT;go_enter Tryz.func34,Tryz.ntmps34;go_wp2;go_ret;exact ⟨rfl,rfl⟩
 ·have hm:maskF k e=0:=by unfold maskF;rw [if_neg he]
  rw [hm];have h0:¬(e:Int)=0:=by omega
  clear hm hT he;go_enter Tryz.func34,Tryz.ntmps34;go_wp2;go_ret;exact ⟨rfl,rfl⟩
theorem repin_zero' (f:Int)(p:Nat)(w:World):Calls Tryz.prog 83 #[.int .i64 0,.int .i64 f,.pointer (some ⟨p,0,none⟩)] w fun o w'=>o = .returned (.bool true)∧w=w':=by
 go_enter Tryz.func83,Tryz.ntmps83;go_wp2;go_ret;exact ⟨rfl,rfl⟩
theorem repin_has (n f:Int)(p:Nat)(m:Int)(w:World)(hp:w.cell? ⟨p,0,none⟩=some (.int .i64 m))(hf:bits .and .i64 m f≠0)(h0:0≤n)(h1:n≤65535):Calls Tryz.prog 83 #[.int .i64 n,.int .i64 f,.pointer (some ⟨p,0,none⟩)] w fun o w'=>o = .returned (.bool true)∧w=w':=by
 by_cases hn:n=0
 ·subst hn;clear hf;go_enter Tryz.func83,Tryz.ntmps83;go_wp2;go_ret;exact ⟨rfl,rfl⟩
 ·have h2:0<n:=by omega
  have h3:(n == 0)=false:=by simpa using hn
  have h4:(bits .and .i64 m f != 0)=true:=by simpa using hf
  have h5:decide (0<n)=true:=by simpa using h2
  have h6:decide (n≤65535)=true:=by simpa using h1
  go_enter Tryz.func83,Tryz.ntmps83;go_wp2;go_ret;exact ⟨rfl,rfl⟩
theorem repin_ok (n f:Int)(p:Nat)(m:Int)(w:World)(hp:w.cell? ⟨p,0,none⟩=some (.int .i64 m))(h:n=0∨(bits .and .i64 m f≠0∧0≤n∧n≤65535)):Calls Tryz.prog 83 #[.int .i64 n,.int .i64 f,.pointer (some ⟨p,0,none⟩)] w fun o w'=>o = .returned (.bool true)∧w=w':=by
 rcases h with h | ⟨h1,h2,h3⟩
 ·subst h;exact repin_zero' f p w
 ·exact repin_has n f p m w hp h1 h2 h3
def rpC (r:Rp):Array Value:=#[.int .u32 r.tag,.int .i64 r.k,.int .i64 r.err,.int .u32 r.id,.int .i64 r.seat,.int .i64 r.til,.int .i64 r.cnt]
structure OkRp (r:Rp):Prop where
 tag:r.tag<4294967296
 k:r.k≤10
 err:r.err≤65535
 none:r.k=0→r.tag=0∧r.err=200
 id:r.id<4294967296
 seat:r.seat≤65535
 til:r.til<9223372036854775808
 cnt:r.cnt≤65535
 only:maskF r.k r.err=0∧r.id=0∧r.seat=0∧r.til=0∧r.cnt=0∨maskF r.k r.err=5∧r.seat=0∧r.cnt=0∨maskF r.k r.err=2∧r.id=0∧r.til=0∧r.cnt=0∨
  maskF r.k r.err=6∧r.id=0∧r.cnt=0∨maskF r.k r.err=4∧r.id=0∧r.seat=0∧r.cnt=0∨maskF r.k r.err=8∧r.id=0∧r.seat=0∧r.til=0
theorem repcheck_0 (t k e id s u c:Nat)(w:World)(hT:Glb w)(hm:maskF k e=0)(hk:k≤10)(he:e≤65535)(h0:k≠0)(hs:s≤65535)(hc:c≤65535):
 Calls Tryz.prog 37 #[.agg #[.int .u32 t,.int .i64 k,.int .i64 e,.int .u32 0,.int .i64 0,.int .i64 0,.int .i64 0]] w fun o w'=>o = .returned (.int .i64 0)∧Below w.heap.size w w':=by
 have HT:=hid hT;have HM:=hid hm;have hk0:¬(k:Int)<0:=by omega
 have hk1:¬(10:Int)<(k:Int):=by omega
 have he0:¬(e:Int)<0:=by omega
 have he1:¬(65535:Int)<(e:Int):=by omega
 have hu0:¬(u:Int)<0:=by omega
 have HS:=hid hs;have HC:=hid hc;have HKE:=hid hk;have hkz':¬(k:Int)=0:=by omega
 clear hT hm hk he h0 hs hc;go_enter Tryz.func37,Tryz.ntmps37;go_wp2_with fail;refine at_new1 ?_;intro w0 p0 ns nb;refine (repof_any k e _ HKE.out (HT.out.new nb)).mono ?_;rintro o w1 ⟨rfl,rfl⟩;rw [HM.out];have HB:=hid nb;have HP:=hid p0;have hR:w.heap.size<w0.heap.size:=by omega
 obtain ⟨c0,_,c1,_,c2,_,c3,_,c4,_,c5,_,c6,_⟩:=cells7 HP.out;clear p0 ns nb;go_wp2_with (go_at_call 83;refine (repin_ok _ _ _ 0 _ ((blk (heap_alloc_new w0 _)).1 0) (by first | exact Or.inl rfl)).mono ?_;rintro o w' ⟨rfl,rfl⟩);all_goals
  go_ret;exact ⟨rfl,HB.out.alloc (by omega) _⟩
theorem repcheck_5 (t k e id s u c:Nat)(w:World)(hT:Glb w)(hm:maskF k e=5)(hk:k≤10)(he:e≤65535)(h0:k≠0)(hs:s≤65535)(hc:c≤65535):
 Calls Tryz.prog 37 #[.agg #[.int .u32 t,.int .i64 k,.int .i64 e,.int .u32 id,.int .i64 0,.int .i64 u,.int .i64 0]] w fun o w'=>o = .returned (.int .i64 0)∧Below w.heap.size w w':=by
 have HT:=hid hT;have HM:=hid hm;have hk0:¬(k:Int)<0:=by omega
 have hk1:¬(10:Int)<(k:Int):=by omega
 have he0:¬(e:Int)<0:=by omega
 have he1:¬(65535:Int)<(e:Int):=by omega
 have hu0:¬(u:Int)<0:=by omega
 have HS:=hid hs;have HC:=hid hc;have HKE:=hid hk;have hb1:bits .and .i64 5 1=1:=by decide
 have hb4:bits .and .i64 5 4=4:=by decide
 have hkz':¬(k:Int)=0:=by omega
 clear hT hm hk he h0 hs hc;go_enter Tryz.func37,Tryz.ntmps37;go_wp2_with fail;refine at_new1 ?_;intro w0 p0 ns nb;refine (repof_any k e _ HKE.out (HT.out.new nb)).mono ?_;rintro o w1 ⟨rfl,rfl⟩;rw [HM.out];have HB:=hid nb;have HP:=hid p0;have hR:w.heap.size<w0.heap.size:=by omega
 obtain ⟨c0,_,c1,_,c2,_,c3,_,c4,_,c5,_,c6,_⟩:=cells7 HP.out;clear p0 ns nb;go_wp2_with (go_at_call 83;refine (repin_ok _ _ _ 5 _ ((blk (heap_alloc_new w0 _)).1 0) (by first | exact Or.inl rfl)).mono ?_;rintro o w' ⟨rfl,rfl⟩);all_goals
  go_ret;exact ⟨rfl,HB.out.alloc (by omega) _⟩
theorem repcheck_2 (t k e id s u c:Nat)(w:World)(hT:Glb w)(hm:maskF k e=2)(hk:k≤10)(he:e≤65535)(h0:k≠0)(hs:s≤65535)(hc:c≤65535):
 Calls Tryz.prog 37 #[.agg #[.int .u32 t,.int .i64 k,.int .i64 e,.int .u32 0,.int .i64 s,.int .i64 0,.int .i64 0]] w fun o w'=>o = .returned (.int .i64 0)∧Below w.heap.size w w':=by
 have HT:=hid hT;have HM:=hid hm;have hk0:¬(k:Int)<0:=by omega
 have hk1:¬(10:Int)<(k:Int):=by omega
 have he0:¬(e:Int)<0:=by omega
 have he1:¬(65535:Int)<(e:Int):=by omega
 have hu0:¬(u:Int)<0:=by omega
 have HS:=hid hs;have HC:=hid hc;have HKE:=hid hk;have hkz':¬(k:Int)=0:=by omega
 clear hT hm hk he h0 hs hc;go_enter Tryz.func37,Tryz.ntmps37;go_wp2_with fail;refine at_new1 ?_;intro w0 p0 ns nb;refine (repof_any k e _ HKE.out (HT.out.new nb)).mono ?_;rintro o w1 ⟨rfl,rfl⟩;rw [HM.out];have HB:=hid nb;have HP:=hid p0;have hR:w.heap.size<w0.heap.size:=by omega
 obtain ⟨c0,_,c1,_,c2,_,c3,_,c4,_,c5,_,c6,_⟩:=cells7 HP.out;clear p0 ns nb;go_wp2_with (go_at_call 83;refine (repin_ok _ _ _ 2 _ ((blk (heap_alloc_new w0 _)).1 0) (by first | exact Or.inl rfl | exact Or.inr ⟨by decide,by omega,by have:=HS.out;omega⟩)).mono ?_;rintro o w' ⟨rfl,rfl⟩);all_goals
  go_ret;exact ⟨rfl,HB.out.alloc (by omega) _⟩
theorem repcheck_6 (t k e id s u c:Nat)(w:World)(hT:Glb w)(hm:maskF k e=6)(hk:k≤10)(he:e≤65535)(h0:k≠0)(hs:s≤65535)(hc:c≤65535):
 Calls Tryz.prog 37 #[.agg #[.int .u32 t,.int .i64 k,.int .i64 e,.int .u32 0,.int .i64 s,.int .i64 u,.int .i64 0]] w fun o w'=>o = .returned (.int .i64 0)∧Below w.heap.size w w':=by
 have HT:=hid hT;have HM:=hid hm;have hk0:¬(k:Int)<0:=by omega
 have hk1:¬(10:Int)<(k:Int):=by omega
 have he0:¬(e:Int)<0:=by omega
 have he1:¬(65535:Int)<(e:Int):=by omega
 have hu0:¬(u:Int)<0:=by omega
 have HS:=hid hs;have HC:=hid hc;have HKE:=hid hk;have hb4:bits .and .i64 6 4=4:=by decide
 have hkz':¬(k:Int)=0:=by omega
 clear hT hm hk he h0 hs hc;go_enter Tryz.func37,Tryz.ntmps37;go_wp2_with fail;refine at_new1 ?_;intro w0 p0 ns nb;refine (repof_any k e _ HKE.out (HT.out.new nb)).mono ?_;rintro o w1 ⟨rfl,rfl⟩;rw [HM.out];have HB:=hid nb;have HP:=hid p0;have hR:w.heap.size<w0.heap.size:=by omega
 obtain ⟨c0,_,c1,_,c2,_,c3,_,c4,_,c5,_,c6,_⟩:=cells7 HP.out;clear p0 ns nb;go_wp2_with (go_at_call 83;refine (repin_ok _ _ _ 6 _ ((blk (heap_alloc_new w0 _)).1 0) (by first | exact Or.inl rfl | exact Or.inr ⟨by decide,by omega,by have:=HS.out;omega⟩)).mono ?_;rintro o w' ⟨rfl,rfl⟩);all_goals
  go_ret;exact ⟨rfl,HB.out.alloc (by omega) _⟩
theorem repcheck_4 (t k e id s u c:Nat)(w:World)(hT:Glb w)(hm:maskF k e=4)(hk:k≤10)(he:e≤65535)(h0:k≠0)(hs:s≤65535)(hc:c≤65535):
 Calls Tryz.prog 37 #[.agg #[.int .u32 t,.int .i64 k,.int .i64 e,.int .u32 0,.int .i64 0,.int .i64 u,.int .i64 0]] w fun o w'=>o = .returned (.int .i64 0)∧Below w.heap.size w w':=by
 have HT:=hid hT;have HM:=hid hm;have hk0:¬(k:Int)<0:=by omega
 have hk1:¬(10:Int)<(k:Int):=by omega
 have he0:¬(e:Int)<0:=by omega
 have he1:¬(65535:Int)<(e:Int):=by omega
 have hu0:¬(u:Int)<0:=by omega
 have HS:=hid hs;have HC:=hid hc;have HKE:=hid hk;have hb4:bits .and .i64 4 4=4:=by decide
 have hkz':¬(k:Int)=0:=by omega
 clear hT hm hk he h0 hs hc;go_enter Tryz.func37,Tryz.ntmps37;go_wp2_with fail;refine at_new1 ?_;intro w0 p0 ns nb;refine (repof_any k e _ HKE.out (HT.out.new nb)).mono ?_;rintro o w1 ⟨rfl,rfl⟩;rw [HM.out];have HB:=hid nb;have HP:=hid p0;have hR:w.heap.size<w0.heap.size:=by omega
 obtain ⟨c0,_,c1,_,c2,_,c3,_,c4,_,c5,_,c6,_⟩:=cells7 HP.out;clear p0 ns nb;go_wp2_with (go_at_call 83;refine (repin_ok _ _ _ 4 _ ((blk (heap_alloc_new w0 _)).1 0) (by first | exact Or.inl rfl)).mono ?_;rintro o w' ⟨rfl,rfl⟩);all_goals
  go_ret;exact ⟨rfl,HB.out.alloc (by omega) _⟩
theorem repcheck_8 (t k e id s u c:Nat)(w:World)(hT:Glb w)(hm:maskF k e=8)(hk:k≤10)(he:e≤65535)(h0:k≠0)(hs:s≤65535)(hc:c≤65535):
 Calls Tryz.prog 37 #[.agg #[.int .u32 t,.int .i64 k,.int .i64 e,.int .u32 0,.int .i64 0,.int .i64 0,.int .i64 c]] w fun o w'=>o = .returned (.int .i64 0)∧Below w.heap.size w w':=by
 have HT:=hid hT;have HM:=hid hm;have hk0:¬(k:Int)<0:=by omega
 have hk1:¬(10:Int)<(k:Int):=by omega
 have he0:¬(e:Int)<0:=by omega
 have he1:¬(65535:Int)<(e:Int):=by omega
 have hu0:¬(u:Int)<0:=by omega
 have HS:=hid hs;have HC:=hid hc;have HKE:=hid hk;have hkz':¬(k:Int)=0:=by omega
 clear hT hm hk he h0 hs hc;go_enter Tryz.func37,Tryz.ntmps37;go_wp2_with fail;refine at_new1 ?_;intro w0 p0 ns nb;refine (repof_any k e _ HKE.out (HT.out.new nb)).mono ?_;rintro o w1 ⟨rfl,rfl⟩;rw [HM.out];have HB:=hid nb;have HP:=hid p0;have hR:w.heap.size<w0.heap.size:=by omega
 obtain ⟨c0,_,c1,_,c2,_,c3,_,c4,_,c5,_,c6,_⟩:=cells7 HP.out;clear p0 ns nb;go_wp2_with (go_at_call 83;refine (repin_ok _ _ _ 8 _ ((blk (heap_alloc_new w0 _)).1 0) (by first | exact Or.inl rfl | exact Or.inr ⟨by decide,by omega,by have:=HC.out;omega⟩)).mono ?_;rintro o w' ⟨rfl,rfl⟩);all_goals
  go_ret;exact ⟨rfl,HB.out.alloc (by omega) _⟩
end
end Go.Proofs.YtdjiopacieadpaaGreatDoor
