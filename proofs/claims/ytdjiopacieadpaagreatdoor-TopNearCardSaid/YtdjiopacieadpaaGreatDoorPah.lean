/- TopNear: part Pah: IxD IxI IxS IxT IxA IxB. -/
import Derived.Test.YtdjiopacieadpaaGreatDoorPag
set_option linter.unusedVariables false
set_option linter.unusedSimpArgs false
set_option maxRecDepth 8000
set_option maxHeartbeats 8000000
namespace Go.Proofs.YtdjiopacieadpaaGreatDoor
section
open Go.RowKit IdxPlain
def R3 (w:World)(g:Nat)(L:List St):Prop:= ∃X:List Value,w.heap[g]?=some (Obj.cells (L.flatMap stC++X).toArray 317 (0,0))
theorem R3.lt {w:World}{g:Nat}{L:List St}(h:R3 w g L):g<w.heap.size:=by obtain ⟨X,h⟩:=h;exact heap_lt h
theorem R3.kp {w w':World}{g:Nat}{L:List St}{F:Nat→Prop}(h:R3 w g L)(hk:Kp F w w')(hg:¬F g):R3 w' g L:=by obtain ⟨X,h⟩:=h;exact ⟨X,hk.blk h hg⟩
theorem R3.new {w w':World}{g:Nat}{L:List St}(h:R3 w g L)(hb:Below w.heap.size w w'):R3 w' g L:=by obtain ⟨X,h⟩:=h;exact ⟨X,Bl.blk hb h⟩
theorem R3.frozen {w:World}{g:Nat}{L:List St}(h:R3 w g L)(i:Nat):w.frozen? ⟨g,i,none⟩=false:=by obtain ⟨X,h⟩:=h;exact (blk h).2.1 i
theorem R3.cells {w:World}{g:Nat}{L:List St}(h:R3 w g L){i:Nat}{s:St}(hi:L[i]?=some s):
 w.cell? ⟨g,i*3,none⟩=some (.int .u8 s.1)∧w.cell? ⟨g,i*3+1,none⟩=some (.int .u32 s.2.1)∧w.cell? ⟨g,i*3+2,none⟩=some (.int .i64 s.2.2):=by
 obtain ⟨X,h⟩:=h;have hb:=(blk h).1;have hil:i<L.length:=(List.getElem?_eq_some_iff.1 hi).1;have get:∀j,j<3→w.cell? ⟨g,i*3+j,none⟩=(stC s)[j]? :=by
  intro j hj;rw [hb (i*3+j),List.getElem?_toArray,List.getElem?_append_left (by rw [slC_len];omega),slC_get L i j hj,hi];rfl
 exact ⟨get 0 (by omega),get 1 (by omega),get 2 (by omega)⟩
theorem R3.put {w:World}{g:Nat}{L:List St}(h:R3 w g L){i:Nat}(hi:i<L.length)(x:St):R3 (((w.setCell ⟨g,i*3,none⟩ (.int .u8 x.1)).setCell ⟨g,i*3+1,none⟩ (.int .u32 x.2.1)).setCell ⟨g,i*3+2,none⟩ (.int .i64 x.2.2)) g (L.set i x):=by
 obtain ⟨X,h⟩:=h;have h1:=heap_setCell_same w g (i*3) _ 317 (.int .u8 x.1) h;have h2:=heap_setCell_same _ g (i*3+1) _ 317 (.int .u32 x.2.1) h1;have h3:=heap_setCell_same _ g (i*3+2) _ 317 (.int .i64 x.2.2) h2;refine ⟨X,?_⟩;rw [h3,slC_set L i x hi];have hl:=slC_len L;simp only [List.setIfInBounds_toArray];rw [List.set_append,if_pos (by omega),List.set_append,if_pos (by rw [List.length_set];omega),List.set_append,if_pos (by rw [List.length_set,List.length_set];omega)]
theorem R3.pre {w:World}{g:Nat}{L:List St}(h:R3 w g L)(k:Nat):R3 w g (L.take k):=by
 obtain ⟨X,h⟩:=h;refine ⟨(L.drop k).flatMap stC++X,?_⟩;rw [←List.append_assoc,←List.flatMap_append,List.take_append_drop];exact h
theorem R3.of_cells {w w':World}{g:Nat}{L:List St}(h:R3 w g L)(hs:w'.heap.size=w.heap.size)(hb:∃C:Array Value,w'.heap[g]?=some (Obj.cells C 317 (0,0)))(hc:∀i,i<L.length*3→w'.cell? ⟨g,i,none⟩=w.cell? ⟨g,i,none⟩):R3 w' g L:=by
 obtain ⟨X,h⟩:=h;obtain ⟨C,hC⟩:=hb;have e:C.toList.take (L.length*3)=L.flatMap stC:=by
  apply List.ext_getElem?;intro i;rw [List.getElem?_take];split
  ·rename_i hi;have:=hc i hi;rw [(blk hC).1 i,(blk h).1 i] at this;have e9:(L.flatMap stC++X).toArray[i]?=(L.flatMap stC)[i]? :=by rw [List.getElem?_toArray,List.getElem?_append_left (by rw [slC_len];exact hi)]
   rw [←e9,←this];simp
  ·rename_i hi;rw [List.getElem?_eq_none (by rw [slC_len];omega)]
 refine ⟨C.toList.drop (L.length*3),?_⟩;rw [←e,List.take_append_drop];exact hC
def notFull (s:St):Bool:= !(s.1 == 1)
theorem pred_any (s:St)(w:World):Calls Tryz.prog 216 #[.agg #[.int .u8 s.1,.int .u32 s.2.1,.int .i64 s.2.2]] w fun e w'=>e = .returned (.bool (notFull s))∧Below w.heap.size w w':=by
 obtain ⟨a,b,c⟩:=s;have hb:=(new1 w (.cells #[.int .u8 a,.int .u32 b,.int .i64 c] 317)).2.2;by_cases h:a=1
 ·subst h;go_enter Tryz.func216,Tryz.ntmps216;go_wp2;go_ret;exact ⟨rfl,hb⟩
 ·have h1:((a:Int) == 1)=false:=by simp;omega
  have h2:((a:Int) != 1)=true:=by simp;omega
  have h3:notFull (a,b,c)=true:=by unfold notFull;simp [h]
  rw [h3];clear h3 h;go_enter Tryz.func216,Tryz.ntmps216;go_wp2;go_ret;exact ⟨rfl,hb⟩
theorem idxf_any (g n cap:Nat)(L:List St)(w:World)(h:R3 w g L)(hl:L.length=n)(hn:n≤1000):Calls Tryz.prog 225 #[.slice (some ⟨g,0,none⟩) n cap,.func (.func 216) #[] #[]] w fun e w'=>e = .returned (.int .i64 (placeI (L.findIdx? notFull)))∧Below w.heap.size w w':=by
 have H:=hid h;have HL:=hid hl;clear h hl;go_enter Tryz.func225,Tryz.ntmps225;go_wp2_with fail;go_loopw [8] (fun s8 wr=> ∃j:Nat,j≤n∧s8 = .int .i64 j∧Below w.heap.size w wr∧(∀i s,i<j→L[i]?=some s→notFull s=false)) (fun s8 _=>n-(intOf s8).toNat)
 case atStart=>exact ⟨0,Nat.zero_le _,rfl,Below.refl _ _,fun i s hi=>by omega⟩
 case round=>
  obtain ⟨j,hj,rfl,hb,hall⟩:=hrel;have HB:=hid hb;have HALL:=hid hall;clear hall;by_cases hlt:j<n
  ·have hltI:(j:Int)<(n:Int):=by omega
   obtain ⟨s,hs⟩:∃s,L[j]?=some s:=⟨_,List.getElem?_eq_getElem (by rw [HL.out];exact hlt)⟩;obtain ⟨d0,d1,d2⟩:=(H.out.new hb).cells hs;have HS:=hid hs;have hpr:=pred_any s wr;cases hnf:notFull s with
   | true=>
    rw [hnf] at hpr;have HPR:=hid hpr;have hres:L.findIdx? notFull=some j:=by
     rw [List.findIdx?_eq_some_iff_getElem];have hjl:j<L.length:=by rw [HL.out];exact hlt
     have e1:L[j]=s:=by have:=List.getElem?_eq_getElem hjl;rw [HS.out] at this;injection this with this;exact this.symm
     refine ⟨hjl,by rw [e1];exact hnf,fun i hi=>?_⟩;have:=HALL.out i L[i] hi (List.getElem?_eq_getElem (by omega));simp [this]
    have HRES:=hid hres;clear hs hpr hnf hres hb;go_wp2_with fail;refine HPR.out.mono ?_;rintro e w2 ⟨rfl,hb2⟩;have HB2:=hid hb2;clear hb2;go_wp2_with fail;go_ret;exact ⟨by rw [HRES.out];rfl,HB.out.trans (HB2.out.mono HB.out.size)⟩
   | false=>
    rw [hnf] at hpr;have HPR:=hid hpr;have HNF:=hid hnf;clear hs hpr hnf hb;go_wp2_with fail;refine HPR.out.mono ?_;rintro e w2 ⟨rfl,hb2⟩;have HB2:=hid hb2;clear hb2;go_wp2_with fail;go_roundw;case rel=>
     refine ⟨j+1,by omega,by go_num,HB.out.trans (HB2.out.mono HB.out.size),fun i s' hi hs'=>?_⟩;by_cases e:i=j
     ·subst e;rw [HS.out] at hs';injection hs' with hs';subst hs';exact HNF.out
     ·exact HALL.out i s' (by omega) hs'
    case measure=>simp [intOf];omega
  ·have hltI:¬(j:Int)<(n:Int):=by omega
   have hres:L.findIdx? notFull=none:=by
    rw [List.findIdx?_eq_none_iff];intro s hs;obtain ⟨i,hi⟩:=List.getElem?_of_mem hs;have hil:=(List.getElem?_eq_some_iff.1 hi).1;exact HALL.out i s (by have:=HL.out;omega) hi
   have HRES:=hid hres;clear hres hb;go_wp2_with fail;go_ret;exact ⟨by rw [HRES.out];rfl,HB.out⟩
theorem cells_below (g:Nat):∀(vs:List Value) (o:Nat) (w:World) (q:Nat),q<o→(w.setCells g o vs).cell? ⟨g,q,none⟩=w.cell? ⟨g,q,none⟩
 | [],_,_,_,_=>rfl
 | v::vs,o,w,q,h=>(cells_below g vs (o+1) _ q (by omega)).trans (World.cell?_setCell_other _ _ _ _ (by simp only [ne_eq,Addr.mk.injEq,true_and,and_true];omega))
theorem run_clear3 (g o n c:Nat)(w:World)(hn:0<n)(hc:∀j,j<n*3→(w.cell? ⟨g,o+j,none⟩).isSome = true)(hf:∀j,w.frozen? ⟨g,j,none⟩=false):
 ∃vs:List Value,vs.length=n*3∧ ∀ty:TypeId,(Builtin.clear_ #[254] ty #[.slice (some ⟨g,o,none⟩) n c]).run Tryz.prog w = .ok (.tuple #[]) (w.setCells g o vs):=by
 obtain ⟨m,rfl⟩:∃m,n=m+1:=⟨n-1,by omega⟩;have hv:∀w,(zeroValue 317).run Tryz.prog w = .ok (.agg #[.int .u8 0,.int .u32 0,.int .i64 0]) w:=fun w=>by kernel_rfl
 have hzl:(Builtin.zeroCells (Value.agg #[.int .u8 0,.int .u32 0,.int .i64 0]).cells (m+1)).toList.length = (m+1)*3:=by simp [Builtin.zeroCells,Value.cells]
 have hz1:∀v∈(Builtin.zeroCells (Value.agg #[.int .u8 0,.int .u32 0,.int .i64 0]).cells (m+1)).toList,v.oneCell'=true:=by
  intro v hv9;simp only [Builtin.zeroCells,Array.mem_toList_iff,Array.mem_map,Array.mem_range] at hv9;obtain ⟨i,_,rfl⟩:=hv9;have hr:i % 3<3:=Nat.mod_lt _ (by omega);show (#[Value.int IntKind.u8 0,Value.int IntKind.u32 0,Value.int IntKind.i64 0][i % 3]!).oneCell' = true
  match i % 3,hr with
  | 0,_=>rfl
  | 1,_=>rfl
  | 2,_=>rfl
 have hst:=run_storeCells_cells (P:=Tryz.prog) g o _ 0 w (by rw [hzl];simpa using hc) (by intro j _;exact hf _) hz1;simp only [Nat.add_zero] at hst;refine ⟨_,hzl,fun ty=>?_⟩;simp [Builtin.clear_,run_underlying Tryz.underlying254,hv,hst]
theorem delf_any (g n cap:Nat)(L:List St)(w:World)(h:R3 w g L)(hl:L.length=n)(hn:n≤1000)(hcap:n≤cap):Calls Tryz.prog 214 #[.slice (some ⟨g,0,none⟩) n cap,.func (.func 216) #[] #[]] w fun e w'=>e = .returned (.slice (some ⟨g,0,none⟩) (L.filter fun s=>s.1 == 1).length cap)∧R3 w' g (L.filter fun s=>s.1 == 1)∧Kp (· = g) w w':=by
 have H:=hid h;have HL:=hid hl;have HIF:=hid (idxf_any g n cap L w h hl hn);have hfil:∀l:List St,(∀s∈l,notFull s=false)→l.filter (fun s=>s.1 == 1)=l:=fun l hl=>List.filter_eq_self.2 (fun s hs=>by have:=hl s hs;unfold notFull at this;simpa using this)
 have HFIL:=hid hfil;cases hidx:L.findIdx? notFull with
 | none=>
  rw [hidx] at HIF;have hall:L.filter (fun s=>s.1 == 1)=L:=hfil L (by rw [List.findIdx?_eq_none_iff] at hidx;exact hidx);rw [hall,hl];clear h hl hidx hall hfil;go_enter Tryz.func214,Tryz.ntmps214;go_wp2_with fail;refine HIF.out.mono ?_;rintro e w2 ⟨rfl,hb⟩;have hpI:placeI none = -1:=rfl;rw [hpI];have HB:=hid hb;clear hb hpI;go_wp2_with fail;go_ret;exact ⟨rfl,H.out.new HB.out,Kp.of_new HB.out⟩
 | some i0=>
  rw [hidx] at HIF;rw [List.findIdx?_eq_some_iff_getElem] at hidx;obtain ⟨hi0,hnf,hlow⟩:=hidx;have hpre:(L.take i0).filter (fun s=>s.1 == 1)=L.take i0:=hfil _ (fun s hs=>by
   obtain ⟨j,hj⟩:=List.getElem?_of_mem hs;rw [List.getElem?_take] at hj;split at hj
   ·rename_i hji;have hjl:=(List.getElem?_eq_some_iff.1 hj).1;have:=hlow j hji;rw [(List.getElem?_eq_some_iff.1 hj).2] at this;simpa using this
   ·cases hj)
  have h0:L[i0]?.isSome = true:=by simp [hi0]
  have hstep:(L.take (i0+1)).filter (fun s=>s.1 == 1)=L.take i0:=by
   rw [List.take_succ_eq_append_getElem hi0,List.filter_append,hpre];have:(L[i0].1 == 1)=false:=by unfold notFull at hnf;simpa using hnf
   simp [this]
  have HST:=hid hstep;have hi0n:i0<n:=by omega
  have hm1:((i0:Int) == -1)=false:=by simp
  clear h hl hnf hlow hpre hstep h0 hfil;go_enter Tryz.func214,Tryz.ntmps214;go_wp2_with fail;refine HIF.out.mono ?_;rintro e w2 ⟨rfl,hb⟩;have hpI:placeI (some i0)=(i0:Int):=rfl;rw [hpI];have HB:=hid hb;clear hb hpI;go_wp2_with fail;go_loopw [5,6] (fun s5 s6 wr=> ∃(i j:Nat) (LL:List St),i<j∧j≤n∧s5 = .int .i64 i∧s6 = .int .i64 j∧LL.length=n∧LL.take i=(L.take j).filter (fun s=>s.1 == 1)∧LL.drop j=L.drop j∧R3 wr g LL∧Kp (· = g) w wr) (fun _ s6 _=>n-(intOf s6).toNat)
  case atStart=>exact ⟨i0,i0+1,L,by omega,by omega,rfl,by go_num,HL.out,HST.out.symm,rfl,H.out.new HB.out,Kp.of_new HB.out⟩
  case round=>
   obtain ⟨i,j,LL,hij,hjn,rfl,rfl,hLL,htk,hdr,hr3,hkp⟩:=hrel;have HLL:=hid (And.intro hLL (And.intro htk hdr));have HR3:=hid hr3;have HKP:=hid hkp;by_cases hlt:j<n
   ·have hltI:(j:Int)<(n:Int):=by omega
    have hiI:(i:Int)<(n:Int):=by omega
    obtain ⟨s,hs⟩:∃s,L[j]?=some s:=⟨_,List.getElem?_eq_getElem (by rw [HL.out];exact hlt)⟩;have hs2:LL[j]?=some s:=by
     have e1:(LL.drop j)[0]?=(L.drop j)[0]? :=by rw [hdr]
     rw [List.getElem?_drop,List.getElem?_drop,Nat.add_zero] at e1;rw [e1];exact hs
    obtain ⟨d0,d1,d2⟩:=hr3.cells hs2;have hpr:=pred_any s;have hft:(L.take (j+1)).filter (fun s=>s.1 == 1)=(L.take j).filter (fun s=>s.1 == 1)++(if s.1 == 1 then [s] else []):=by
     rw [List.take_add_one,hs,List.filter_append];by_cases e:(s.1 == 1)=true<;>simp [e]
    have HFT:=hid hft;have hd2:LL.drop (j+1)=L.drop (j+1):=by rw [←List.drop_drop,←List.drop_drop,hdr]
    have HD2:=hid hd2;clear hs hs2 hft hd2 htk hdr hLL hr3 hkp;have N1:=new1 wr (.cells #[.int .u8 s.1,.int .u32 s.2.1,.int .i64 s.2.2] 317);have HN1:=hid N1;have hne:g≠wr.heap.size:=Nat.ne_of_lt HR3.out.lt;have HNE:=hid hne;clear N1 hne;obtain ⟨h1,h2,h3⟩:=HLL.out;have HL1:=hid h1;have HL2:=hid h2;have HL3:=hid h3;clear h1 h2 h3;cases hnf:notFull s with
    | true=>
     rw [hnf] at hpr;have hs1:(s.1 == 1)=false:=by unfold notFull at hnf;simpa using hnf
     have HS1:=hid hs1;have HPR:=hid hpr;clear hpr hnf hs1;go_wp2_with fail;refine (HPR.out _).mono ?_;rintro e w3 ⟨rfl,hb3⟩;have HB3:=hid hb3;clear hb3;go_wp2_with fail;go_roundw;case rel=>
      exact ⟨i,j+1,LL,by omega,by omega,rfl,by go_num,HL1.out,by rw [HFT.out,HS1.out,HL2.out];simp,HD2.out,(HR3.out.new HN1.out.2.2).new HB3.out,(HKP.out.trans (Kp.of_new HN1.out.2.2)).trans (Kp.of_new HB3.out)⟩
     case measure=>simp [intOf];omega
    | false=>
     rw [hnf] at hpr;have hs1:(s.1 == 1)=true:=by unfold notFull at hnf;simpa using hnf
     have HS1:=hid hs1;have HPR:=hid hpr;clear hpr hnf hs1;go_wp2_with fail;refine (HPR.out _).mono ?_;rintro e w3 ⟨rfl,hb3⟩;have HB3:=hid hb3;have hvb:=Bl.blk hb3 HN1.out.1;obtain ⟨v0,_,v1,_,v2,_⟩:=cells3 hvb;have hr3':=(HR3.out.new HN1.out.2.2).new hb3;have HR3':=hid hr3';have fz0:w3.frozen? ⟨g,i*3,none⟩=false:=hr3'.frozen _;have fz1:w3.frozen? ⟨g,i*3+1,none⟩=false:=hr3'.frozen _;have fz2:w3.frozen? ⟨g,i*3+2,none⟩=false:=hr3'.frozen _;obtain ⟨t9,ht9⟩:∃t9,LL[i]?=some t9:=⟨_,List.getElem?_eq_getElem (by rw [HL1.out];omega)⟩;obtain ⟨r0,r1,r2⟩:=hr3'.cells ht9;clear hb3 hvb hr3' ht9;go_wp2_with fail;go_roundw;case rel=>
      refine ⟨i+1,j+1,LL.set i s,by omega,by omega,by go_num,by go_num,by rw [List.length_set];exact HL1.out,?_,?_,HR3'.out.put (by rw [HL1.out];omega) s,?_⟩
      ·rw [HFT.out,HS1.out,←HL2.out,if_pos rfl];apply List.ext_getElem?;intro q;have hil:(LL.take i).length = i:=by rw [List.length_take,HL1.out];omega
       rw [List.getElem?_take,List.getElem?_append,hil,List.getElem?_take,List.getElem?_set];by_cases c1:q<i
       ·rw [if_pos (by omega),if_neg (by omega),if_pos c1];simp [c1]
       ·by_cases c2:q=i
        ·subst c2;rw [if_pos (by omega),if_pos rfl,if_pos (by rw [HL1.out];omega),if_neg (by omega)];simp
        ·rw [if_neg (by omega),if_neg (by omega)];rw [List.getElem?_eq_none (by simp;omega)]
      ·rw [List.drop_set_of_lt (by omega)];exact HD2.out
      ·exact ((((HKP.out.trans (Kp.of_new HN1.out.2.2)).trans (Kp.of_new HB3.out)).setCell (p:=⟨g,i*3,none⟩) rfl _).setCell (p:=⟨g,i*3+1,none⟩) rfl _).setCell (p:=⟨g,i*3+2,none⟩) rfl _
     case measure=>simp [intOf];omega
   ·have hltI:¬(j:Int)<(n:Int):=by omega
    obtain rfl:j=n:=by omega
    have htL:L.take j=L:=by rw [←HL.out];exact List.take_length
    have hflt:LL.take i=L.filter (fun s=>s.1 == 1):=by rw [htk,htL]
    have hfl:(L.filter (fun s=>s.1 == 1)).length = i:=by rw [←hflt,List.length_take,hLL];omega
    have hiN:i<j:=hij;obtain ⟨vs,hvs,hclr⟩:=run_clear3 g (i*3) (j-i) (cap-i) wr (by omega) (fun q hq=>by
     obtain ⟨X,hX⟩:=hr3;rw [(blk hX).1,List.getElem?_toArray,List.getElem?_eq_getElem (by rw [List.length_append,slC_len,hLL];omega)];rfl) (fun q=>hr3.frozen q)
    have hiI:(i:Int)≤(j:Int):=by omega
    have hic:i≤cap:=by omega
    have hcne:¬cap=i:=by omega
    have hwK:Kp (· = g) w (wr.setCells g (i*3) vs):=by rw [setCells_vals];exact setVals_kp (F:=(· = g)) rfl _ _ _ _ HKP.out
    have hwR:R3 (wr.setCells g (i*3) vs) g (L.filter (fun s=>s.1 == 1)):=by
     rw [←hflt];refine (hr3.pre i).of_cells (by rw [setCells_vals,setVals_size]) ?_ (fun q hq=>cells_below g vs (i*3) wr q (by rw [List.length_take] at hq;have:min i LL.length≤i:=Nat.min_le_left _ _;omega));obtain ⟨X,hX⟩:=hr3;rw [setCells_vals];exact ⟨_,setVals_heap _ _ _ _ hX⟩
    have HWK:=hid hwK;have HWR:=hid hwR;have HFL:=hid hfl;have hNN:j≤1000:=hn;clear hflt hfl htL htk hdr hLL hr3 hkp hvs hwK hwR;go_wp2_with fail;go_ret;exact ⟨by rw [HFL.out];rfl,HWR.out,HWK.out⟩
end
section
open Go.RowKit IdxPlain Go.Lib Go.Sort
theorem isnan_any (a:Nat)(w:World):Calls Tryz.prog 228 #[.int .u32 a] w fun e w'=>e = .returned (.bool false)∧w=w':=by
 go_enter Tryz.func228,Tryz.ntmps228;go_wp2;go_ret;exact ⟨rfl,rfl⟩
def cmpN (a b:Nat):Int:=if a<b then -1 else if b<a then 1 else 0
theorem cmp_any (a b:Nat)(w:World):Calls Tryz.prog 219 #[.int .u32 a,.int .u32 b] w fun e w'=>e = .returned (.int .i64 (cmpN a b))∧w=w':=by
 unfold cmpN;rcases Nat.lt_trichotomy a b with h | h | h
 ·have h1:(a:Int)<(b:Int):=by omega
  rw [if_pos h];go_enter Tryz.func219,Tryz.ntmps219;go_wp2_with (go_at_call 228;refine (isnan_any _ _).mono ?_;rintro e w' ⟨rfl,rfl⟩);go_ret;exact ⟨rfl,rfl⟩
 ·subst h;rw [if_neg (Nat.lt_irrefl _),if_neg (Nat.lt_irrefl _)];go_enter Tryz.func219,Tryz.ntmps219;go_wp2_with (go_at_call 228;refine (isnan_any _ _).mono ?_;rintro e w' ⟨rfl,rfl⟩);go_ret;exact ⟨rfl,rfl⟩
 ·have h1:(b:Int)<(a:Int):=by omega
  rw [if_neg (by omega),if_pos h];go_enter Tryz.func219,Tryz.ntmps219;go_wp2_with (go_at_call 228;refine (isnan_any _ _).mono ?_;rintro e w' ⟨rfl,rfl⟩);go_ret;exact ⟨rfl,rfl⟩
theorem cmps_any (x y:St)(w:World):Calls Tryz.prog 218 #[.agg (stC x).toArray,.agg (stC y).toArray] w fun e w'=>e = .returned (.int .i64 (cmpN x.2.1 y.2.1))∧ ∃q os',w'=grow (w.drewN q) os':=by
 obtain ⟨a,b,c⟩:=x;obtain ⟨a',b',c'⟩:=y;have hc:=cmp_any b b';generalize cmpN b b'=r at hc ⊢;show Calls Tryz.prog 218 #[.agg #[.int .u8 a,.int .u32 b,.int .i64 c],.agg #[.int .u8 a',.int .u32 b',.int .i64 c']] w _
 go_enter Tryz.func218,Tryz.ntmps218;go_wp2_with (go_at_call 219;refine (hc _).mono ?_;rintro e w' ⟨rfl,rfl⟩);go_ret;exact ⟨rfl,0,_,by rw [alloc_eq_grow,alloc_eq_grow,grow_grow];rfl⟩
def ltN (x y:St):Bool:=decide (x.2.1<y.2.1)
theorem ltN_of (x y:St):ltOf (fun x y:St=>cmpN x.2.1 y.2.1) x y=ltN x y:=by
 unfold ltOf ltN cmpN;by_cases h1:x.2.1<y.2.1
 ·simp [h1]
 ·by_cases h2:y.2.1<x.2.1<;>simp [h1,h2]
theorem swoN:SWO (ltOf fun x y:St=>cmpN x.2.1 y.2.1) where
 irrefl x:=by rw [ltN_of];simp [ltN]
 trans x y z h1 h2:=by rw [ltN_of] at *;simp [ltN] at *;omega
 ntrans x y z h1 h2:=by rw [ltN_of] at *;simp [ltN] at *;omega
end
section
open Go.RowKit IdxPlain Go.Lib Go.Sort Go.Shelf
theorem R3.of_holds {w:World}{g:Nat}{d:Array St}{C:Array Value}(hb:w.heap[g]?=some (Obj.cells C 317 (0,0)))(hH:HoldsK stC 3 w g 0 d):R3 w g d.toList:=by
 have e:C.toList.take (d.size*3)=d.toList.flatMap stC:=by
  apply List.ext_getElem?;intro i;rw [List.getElem?_take];split
  ·rename_i hi;have hq:i / 3<d.size:=by omega
   have hr:i % 3<3:=Nat.mod_lt _ (by decide);have hc:=(hH.cell hq hr).1;have ei:0+i / 3*3+i % 3=i:=by omega
   rw [ei,(blk hb).1 i] at hc;have e2:(d.toList.flatMap stC)[i]?=(d.toList.flatMap stC)[i / 3*3+i % 3]? :=by congr 1;omega
   rw [e2,slC_get d.toList (i / 3) (i % 3) hr];have e3:d.toList[i / 3]?=some d[i / 3]! :=by rw [getElem!_pos d _ hq];simp [hq]
   rw [e3];have e4:C.toList[i]?=C[i]? :=by simp
   rw [e4,hc];show _=(stC d[i / 3]!)[i % 3]?
   have:i % 3<(stC d[i / 3]!).length :=hr;rw [getElem!_pos (stC d[i / 3]!) (i % 3) this,List.getElem?_eq_getElem this]
  ·rename_i hi;rw [List.getElem?_eq_none (by rw [slC_len];simp;omega)]
 refine ⟨C.toList.drop (d.size*3),?_⟩;rw [←e,List.take_append_drop];exact hb
theorem R3.holds {w:World}{g:Nat}{L:List St}(h:R3 w g L):HoldsK stC 3 w g 0 L.toArray:=by
 obtain ⟨X,h⟩:=h;intro j hj;have hj':j<L.length*3:=by have:=hj;simp at this;omega
 have hr:j % 3<3:=Nat.mod_lt _ (by decide);refine ⟨?_,(blk h).2.1 _⟩;rw [(blk h).1 (0+j),get_flatK _ _ _ _ (by simpa using hj'),Nat.zero_add];have e2:(L.flatMap stC)[j]?=(L.flatMap stC)[j / 3*3+j % 3]? :=by congr 1;omega
 have hq:j / 3<L.length:=by omega
 rw [List.getElem?_toArray,List.getElem?_append_left (by rw [slC_len];exact hj'),e2,slC_get L (j / 3) (j % 3) hr,List.getElem?_eq_getElem hq];show (stC L[j / 3])[j % 3]?=some (id (stC L.toArray[j / 3]!)[j % 3]!)
 have e3:L.toArray[j / 3]! = L[j / 3]:=by rw [getElem!_pos L.toArray _ (by simpa using hq)];simp
 have e4:j % 3<(stC L[j / 3]).length :=hr;rw [e3,getElem!_pos (stC L[j / 3]) (j % 3) e4,List.getElem?_eq_getElem e4];rfl
theorem sw_kp (w:World)(g n:Nat)(d':Array St)(os:Array Obj):Kp (· = g) w (sortWorldK stC 3 w g 0 n d' os):=by
 refine ⟨rfl,rfl,rfl,?_,fun k hk hn=>?_⟩
 ·simp [sortWorldK,grow,putRowK,putRow,mapBlock,Go.Sort.ahead]
 ·show (w.heap.modify g _++os)[k]?=_
  rw [Array.getElem?_append_left (by simpa using hk),Array.getElem?_modify,if_neg (fun e=>hn e.symm)]
theorem sw_r3 {w:World}{g n:Nat}{L:List St}(h:R3 w g L)(d':Array St)(os:Array Obj)(hs:d'.size=L.length):R3 (sortWorldK stC 3 w g 0 n d' os) g d'.toList:=by
 have hg:=h.lt;have hH:HoldsK stC 3 (sortWorldK stC 3 w g 0 n d' os) g 0 d':=by
  refine holdsK_grow stC 3 _ os g 0 d' ?_ (holdsK_putRowK stC 3 (Go.Sort.ahead w n) g 0 L.toArray d' (holdsK_ahead stC 3 w n g 0 _ h.holds) (by simpa using hs));simpa [putRowK,putRow,mapBlock,Go.Sort.ahead] using hg
 obtain ⟨X,hX⟩:=h;have e:∃C,(sortWorldK stC 3 w g 0 n d' os).heap[g]?=some (Obj.cells C 317 (0,0)):=by
  refine ⟨putCells id 0 (flatK stC 3 d') (L.flatMap stC++X).toArray,?_⟩
  ·show (w.heap.modify g _++os)[g]?=_
   rw [Array.getElem?_append_left (by simpa using hg),Array.getElem?_modify,if_pos rfl,hX];rfl
 obtain ⟨C,hC⟩:=e;exact R3.of_holds hC hH
def Up (L:List St):Prop:=L.Pairwise fun a b=>a.2.1≤b.2.1
theorem sort_any (g n cap:Nat)(L:List St)(w:World)(h:R3 w g L)(hl:L.length=n)(hn:n≤1000):Calls Tryz.prog 217 #[.slice (some ⟨g,0,none⟩) n cap,.func (.func 218) #[] #[]] w fun e w'=>e = .returned (.tuple #[])∧Kp (· = g) w w'∧ ∃L',L'.Perm L∧Up L'∧R3 w' g L':=by
 have eg:∀args w,(callFunc 218 args).run Tryz.prog w = .ok (.enter 218 args) w:=enters_of Tryz.func218 (by kernel_rfl) rfl;have hcon:=AnyQ.slices_SortFunc Tryz.sortL 3 Tryz.isAgg317 Tryz.sizeOf317 stC (fun _=>rfl) (fun x v hv=>by simp [stC] at hv;rcases hv with rfl | rfl | rfl<;>rfl) (fun x y=>cmpN x.2.1 y.2.1) swoN 218 #[] g 0 cap L.toArray w eg (fun _ _ _ _ x y=>cmps_any x y _) h.holds h.lt (by simp;omega);change Calls Tryz.prog 217 _ _ _ at hcon
 have e9:L.toArray.size=n:=by simpa using hl
 rw [e9] at hcon;refine hcon.mono ?_;rintro e w' ⟨rfl,d',m,os,hp,hs,rfl⟩;have hsz:d'.size=L.length:=by have:=hp.1;simpa using this
 refine ⟨rfl,sw_kp w g m d' os,d'.toList,?_,?_,sw_r3 h d' os hsz⟩
 ·have h3:=hp.2.2;have e1:d'.extract 0 n=d':=by rw [←hl,←hsz];simp
  have e2:L.toArray.extract 0 n=L.toArray:=by rw [←e9];simp
  rw [e1,e2] at h3;simpa using h3
 ·unfold Up;rw [List.pairwise_iff_getElem];intro i j hi hj hij;have hi':i<d'.size:=by simpa using hi
  have hj':j<d'.size:=by simpa using hj
  have:=hs i j (Nat.zero_le _) hij (by omega);rw [ltN_of,getElem!_pos d' j hj',getElem!_pos d' i hi'] at this;unfold ltN at this;simp at this ⊢;exact this
theorem clone3_any (b n c:Nat)(sl:List St)(w:World)(hb:w.heap[b]?=some (Obj.cells (slC sl) 317 (0,0)))(hl:sl.length=n)(hn:1≤n∧n≤1000):
 Calls Tryz.prog 215 #[.slice (some ⟨b,0,none⟩) n c] w fun e w'=> ∃g cap,e = .returned (.slice (some ⟨g,0,none⟩) n cap)∧w.heap.size≤g∧n≤cap∧R3 w' g sl∧Below w.heap.size w w':=by
 obtain ⟨i0,hi,hz0,hz1,hz2⟩:=info_parts info317;have hlen:(sl.flatMap stC).length = n*3:=by rw [slC_len,hl]
 have hcon:=AnyE.slices_Clone Tryz.cloneL i0 _ 3 16 hi hz0 hz1 hz2 rfl (by decide) Tryz.sizeOf317 b 0 n c (sl.flatMap stC) w hlen (by have:n≤1000:=hn.2;exact Nat.le_trans this (by decide)) (by omega)
  (fun j u hu=>by rw [(blk hb).1 (0+j),Nat.zero_add];unfold slC;rw [List.getElem?_toArray];exact hu)
  (fun u hu=>by
   rw [List.mem_flatMap] at hu;obtain ⟨s,_,hs⟩:=hu;simp [stC] at hs;rcases hs with rfl | rfl | rfl<;>rfl)
 change Calls Tryz.prog 215 _ _ _ at hcon
 refine hcon.mono ?_;rintro e w' ⟨v',rfl,ho,hne,hbl⟩;rcases ho.2 with ⟨hv,_⟩ | ⟨g,cap,cur,hv,hbg,hg,hnc,hcm,hcs,ht⟩
 ·exact absurd hv hne
 ·subst hv;refine ⟨g,cap,rfl,hbg,hnc,⟨cur.toList.drop (n*3),?_⟩,hbl⟩;rw [←ht,List.take_append_drop];exact hg
def Items (w w':World)(sl:List St)(e:Ending):Prop:= ∃g cap L,e = .returned (.slice (some ⟨g,0,none⟩) L.length cap)∧w.heap.size≤g∧R3 w' g L∧Below w.heap.size w w'∧L.Perm (sl.filter fun s=>s.1 == 1)∧Up L
theorem items_any (p g:Nat)(sl:List St)(n m l gr st:Nat)(w:World)(h:Ix w p g sl n m l gr st):Calls Tryz.prog 196 #[.pointer (some ⟨p,0,none⟩)] w fun e w'=>Items w w' sl e:=by
 obtain ⟨c0,f0,_⟩:=cells5 h.hd;have HC:=hid (clone3_any g n n sl w h.wd h.hl ⟨h.hn.1,by have:=h.hn.2;omega⟩);have HN:=hid h.hn;have HL:=hid h.hl;clear h;go_enter Tryz.func196,Tryz.ntmps196;go_wp2_with fail;refine HC.out.mono ?_;rintro e w1 ⟨g1,cap,rfl,hg1,hcap,hr1,hb1⟩;have HD:=hid (delf_any g1 n cap sl w1 hr1 HL.out (by have:=HN.out.2;omega) hcap);have HB1:=hid hb1;have HG1:=hid hg1;clear hr1 hb1 hg1;go_wp2_with fail;refine HD.out.mono ?_;rintro e w2 ⟨rfl,hr2,hk2⟩;have hle:(sl.filter fun s=>s.1 == 1).length ≤n:=by rw [←HL.out];exact List.length_filter_le _ _
 generalize hF:(sl.filter fun s=>s.1 == 1)=F at hr2 hle ⊢;generalize hk:F.length=k at hle ⊢;have HS:=hid (sort_any g1 k cap F w2 hr2 hk (by have:=HN.out.2;omega));have HB2:=hid (HB1.out.trans (hk2.below (B:=w.heap.size) HB1.out.size (fun i hi=>by rw [hi];exact HG1.out)));have HF:=hid hF;have HK:=hid hk;clear hr2 hk2 hF hk;go_wp2_with fail;refine HS.out.mono ?_;rintro e w3 ⟨rfl,hk3,L',hp,hu,hr3⟩;have hb3:=HB2.out.trans (hk3.below (B:=w.heap.size) HB2.out.size (fun i hi=>by rw [hi];exact HG1.out));have hlen:L'.length=k:=by rw [hp.length_eq,HK.out]
 have HE:Hid (Items w w3 sl (.returned (.slice (some ⟨g1,0,none⟩) k cap))):=hid ⟨g1,cap,L',by rw [hlen],HG1.out,hr3,hb3,by rw [HF.out];exact hp,hu⟩;clear hk3 hp hu hr3 hb3 hlen;go_wp2_with fail;go_ret;exact HE.out
end
section
open Go.RowKit IdxPlain
theorem zero3 (n:Nat):(Builtin.zeroCells (Value.agg #[.int .u8 0,.int .u32 0,.int .i64 0]).cells n).toList = (List.replicate n (0,0,0)).flatMap stC:=by
 have h:madeCells #[.int .u8 0,.int .u32 0,.int .i64 0] (n*3)=slC (List.replicate n (0,0,0)):=made3 n;have h2:Builtin.zeroCells (Value.agg #[.int .u8 0,.int .u32 0,.int .i64 0]).cells n=madeCells #[.int .u8 0,.int .u32 0,.int .i64 0] (n*3):=rfl;rw [h2,h];rfl
theorem clear_ix {w:World}{p g:Nat}{sl:List St}{n m l gr st:Nat}(h:Ix w p g sl n m l gr st):∃w',(∀ty:TypeId,(Builtin.clear_ #[254] ty #[.slice (some ⟨g,0,none⟩) n n]).run Tryz.prog w = .ok (.tuple #[]) w')∧Ix w' p g (List.replicate n (0,0,0)) n m l gr st∧Kp (· = g) w w':=by
 obtain ⟨k,hk⟩:∃k,n=k+1:=⟨n-1,by have:=h.hn.1;omega⟩;have hv:∀w,(zeroValue 317).run Tryz.prog w = .ok (.agg #[.int .u8 0,.int .u32 0,.int .i64 0]) w:=fun w=>by kernel_rfl
 have hzl:(Builtin.zeroCells (Value.agg #[.int .u8 0,.int .u32 0,.int .i64 0]).cells n).toList.length = n*3:=by rw [zero3,slC_len,List.length_replicate]
 have hz1:∀v∈(Builtin.zeroCells (Value.agg #[.int .u8 0,.int .u32 0,.int .i64 0]).cells n).toList,v.oneCell'=true:=by
  intro v hv9;rw [zero3,List.mem_flatMap] at hv9;obtain ⟨s,hs,h2⟩:=hv9;simp [stC] at h2;rcases h2 with rfl | rfl | rfl<;>rfl
 have hst:=run_storeCells_cells (P:=Tryz.prog) g 0 _ 0 w (by
  rw [hzl];intro j hj;rw [(blk h.wd).1];unfold slC;rw [List.getElem?_toArray,List.getElem?_eq_getElem (by rw [slC_len,h.hl];omega)];rfl) (by intro j _;exact (blk h.wd).2.1 _) hz1
 simp only [Nat.add_zero] at hst;have hblk:(w.setCells g 0 (Builtin.zeroCells (Value.agg #[.int .u8 0,.int .u32 0,.int .i64 0]).cells n).toList).heap[g]?=some (Obj.cells (slC (List.replicate n (0,0,0))) 317 (0,0)):=by
  rw [setCells_vals];have h1:=setVals_heap (Builtin.zeroCells (Value.agg #[.int .u8 0,.int .u32 0,.int .i64 0]).cells n).toList w 0 _ h.wd;have h2:=setArr_list (Builtin.zeroCells (Value.agg #[.int .u8 0,.int .u32 0,.int .i64 0]).cells n).toList (slC sl) 0 (by rw [hzl,Nat.zero_add];unfold slC;rw [List.size_toArray,slC_len,h.hl]);rw [h1];congr 2
  apply Array.toList_inj.1;rw [h2,zero3];simp [slC]
 have hkp:Kp (· = g) w (w.setCells g 0 (Builtin.zeroCells (Value.agg #[.int .u8 0,.int .u32 0,.int .i64 0]).cells n).toList):=by rw [setCells_vals];exact setVals_kp (F:=(· = g)) rfl _ _ _ _ (Kp.refl _ _)
 refine ⟨_,fun ty=>?_,⟨hkp.blk h.hd (fun e=>h.ne e),hblk,List.length_replicate,h.hn,fun s hs=>?_,h.ml⟩,hkp⟩
 ·subst hk;simp [Builtin.clear_,run_underlying Tryz.underlying254,hv,hst]
 ·rw [List.eq_of_mem_replicate hs];exact ⟨by decide,by decide,by decide⟩
structure Half (sl:List St)(n:Nat)(L:List St)(j:Nat)(M:Nat→Option Nat):Prop where
 ok:Ok hashF sl n M
 c1:cnt 1 sl=j
 c2:cnt 2 sl=0
 is:∀id v,M id=some v↔(1,id,v)∈L.take j
theorem Half.zero (n:Nat)(L:List St):Half (List.replicate n (0,0,0)) n L 0 (fun _=>none):=
 ⟨none_ok _ _,(cnt_replicate n).1,(cnt_replicate n).2,fun id v=>by simp⟩
theorem Half.step {sl:List St}{n:Nat}{L:List St}{j:Nat}{M:Nat→Option Nat}(h:Half sl n L j M){id v i:Nat}(hj:L[j]?=some (1,id,v))(hm:M id=none)(hf:Fit hashF sl n id i):Half (sl.set i (1,id,v)) n L (j+1) (put M id v):=by
 obtain ⟨s,j0,hs,hs1,hjn,hi,hall⟩:=hf;have h0:s.1=0:=by
  have a:=h.ok.small s (List.mem_of_getElem? hs);by_cases e:s.1=2
  ·exfalso;have:0<cnt 2 sl:=by
    unfold cnt;rw [List.length_pos_iff_exists_mem];exact ⟨s,List.mem_filter.2 ⟨List.mem_of_getElem? hs,by simp [e]⟩⟩
   have:=h.c2;omega
  ·omega
 have a1:=cnt_set 1 sl i s (1,id,v) hs;have a2:=cnt_set 2 sl i s (1,id,v) hs;rw [h0] at a1 a2;simp at a1 a2;refine ⟨put_ok h.ok hm ⟨s,j0,hs,hs1,hjn,hi,hall⟩,by rw [a1,h.c1],by rw [a2,h.c2],fun id' v'=>?_⟩;rw [List.take_add_one,hj];unfold put;by_cases e:id'=id
 ·subst e;rw [if_pos rfl];simp only [Option.toList_some,List.mem_append,List.mem_singleton,Prod.mk.injEq,true_and];constructor
  ·intro h2;injection h2 with h2;exact Or.inr h2.symm
  ·rintro (h2 | h2)
   ·have:=(h.is id' v').2 h2;rw [hm] at this;cases this
   ·rw [h2]
 ·rw [if_neg e,h.is id' v'];simp [e]
theorem ids_differ {sl:List St}{n:Nat}{M:Nat→Option Nat}(h:Ok hashF sl n M){L:List St}(hp:L.Perm (sl.filter fun s=>s.1 == 1)):L.Pairwise (fun a b=>a.2.1≠b.2.1)∧(∀s∈L,s.1=1)∧(∀id v,M id=some v↔(1,id,v)∈L)∧L.length=cnt 1 sl:=by
 have mem:∀s,s∈L↔s∈sl∧s.1=1:=fun s=>by rw [hp.mem_iff,List.mem_filter];simp
 refine ⟨?_,fun s hs=>((mem s).1 hs).2,fun id v=>?_,by rw [hp.length_eq];rfl⟩
 ·refine (hp.pairwise_iff (fun {a b} hab=>Ne.symm hab)).2 ?_;have:sl.Pairwise (fun a b=>a.1=1→b.1=1→a.2.1≠b.2.1):=by
   rw [List.pairwise_iff_getElem];intro i j hi hj hij ha hb e;have:=h.one i j _ _ (List.getElem?_eq_getElem hi) (List.getElem?_eq_getElem hj) ha hb e;omega
  have h2:=this.filter (fun s=>s.1 == 1);refine h2.imp_of_mem ?_;intro a b ha hb hab;have ha':=(List.mem_filter.1 ha).2;have hb':=(List.mem_filter.1 hb).2;exact hab (by simpa using ha') (by simpa using hb')
 ·rw [mem];constructor
  ·intro hm;obtain ⟨j,_,hj,_⟩:=h.out id v hm;exact ⟨List.mem_of_getElem? hj,rfl⟩
  ·rintro ⟨hm,_⟩;obtain ⟨i,hi⟩:=List.getElem?_of_mem hm;exact h.into i _ hi rfl
def Fpg (p g:Nat):Nat→Prop:=fun b=>b=p∨b=g
structure AnewP (w wr:World)(p g gL n m l:Nat)(L:List St)(j:Nat)(sj:List St)(M:Nat→Option Nat)(st:Nat):Prop where
 ix:Ix wr p g sj n m l 0 st
 half:Half sj n L j M
 row:R3 wr gL L
 kp:Kp (Fpg p g) w wr
def Anew (w wr:World)(p g gL n m l:Nat)(L:List St)(j:Nat):Prop:= ∃sj M st,AnewP w wr p g gL n m l L j sj M st
theorem AnewP.miss {w wr:World}{p g gL n m l:Nat}{L:List St}{j:Nat}{sj:List St}{M:Nat→Option Nat}{st:Nat}(h:AnewP w wr p g gL n m l L j sj M st)(hj:j<n){id v:Nat}(hL:L[j]?=some (1,id,v))(hd:L.Pairwise (fun a b=>a.2.1≠b.2.1))(hid9:id<4294967296):
 M id=none∧ ∃i,Fit hashF sj n id i∧i<n∧ ∀w1,Ix w1 p g sj n m l 0 st→Calls Tryz.prog 208 #[.pointer (some ⟨p,0,none⟩),.int .u32 id] w1 fun e w'=>e = .returned (.tuple #[.int .i64 i,.bool false])∧(∃st',Ix w' p g sj n m l 0 st')∧Kp (· = p) w1 w':=by
 have hm:M id=none:=by
  cases hm:M id with
  | none=>rfl
  | some v'=>
   exfalso;have h1:=(h.half.is id v').1 hm;obtain ⟨i,hi⟩:=List.getElem?_of_mem h1;rw [List.getElem?_take] at hi;split at hi
   ·rename_i hij;obtain ⟨b1,e1⟩:=List.getElem?_eq_some_iff.1 hi;obtain ⟨b2,e2⟩:=List.getElem?_eq_some_iff.1 hL;have:=List.pairwise_iff_getElem.1 hd i j b1 b2 hij;rw [e1,e2] at this;exact this rfl
   ·cases hi
 obtain ⟨i,hf,hi⟩:=find_not h.half.ok hm (empty_of h.half.ok (by rw [h.half.c1,h.half.c2];omega));refine ⟨hm,i,hi,?_,fun w1 hx=>?_⟩
 ·obtain ⟨s,j0,hs,_⟩:=hi;rw [←h.ix.hl];exact (List.getElem?_eq_some_iff.1 hs).1
 ·have hc:=find_any p g sj n m l 0 st id w1 hx hid9;rw [hf] at hc;exact hc
theorem anew_any (p:Nat)(F:Nat→Prop)(M:Nat→Option Nat)(m l n gr st g:Nat)(sl:List St)(w:World)(h:Ix w p g sl n m l gr st)(ho:Ok hashF sl n M)(hlm:cnt 1 sl<n):
 Calls Tryz.prog 209 #[.pointer (some ⟨p,0,none⟩)] w fun e w'=>e = .returned (.tuple #[])∧(∃sl',Ix w' p g sl' n m l 0 st∧Ok hashF sl' n M∧cnt 1 sl'=cnt 1 sl∧cnt 2 sl'=0)∧Kp (Fpg p g) w w':=by
 have H:=hid h;have HO:=hid ho;have HLM:=hid hlm;have HIT:=hid (items_any p g sl n m l gr st w h);clear h ho hlm;go_enter Tryz.func209,Tryz.ntmps209;go_wp2_with fail;refine HIT.out.mono ?_;rintro e w1 ⟨gL,cap,L,rfl,hgL,hrow,hb1,hperm,hup⟩;obtain ⟨hdiff,hone,hmem,hcnt⟩:=ids_differ HO.out hperm;have hx1:=H.out.new hb1;obtain ⟨w2,hclr,hx2,hk2⟩:=clear_ix hx1;obtain ⟨c0,f0,c1,f1,c2,f2,c3,f3,c4,f4⟩:=cells5 hx1.hd;obtain ⟨d0,e0,d1,e1,d2,e2,d3,e3,d4,e4⟩:=cells5 hx2.hd;have hgp:p≠g:=hx1.ne;have hpl:=heap_lt H.out.hd;have hgl:=heap_lt H.out.wd;have hLp:gL≠p:=by omega
 have hLg:gL≠g:=by omega
 have HCLR:=hid hclr;have hsml:∀s∈L,Sm s:=fun s hs=>H.out.sm s (List.mem_filter.1 (hperm.mem_iff.1 hs)).1
 have hk:cnt 1 sl<n:=HLM.out;generalize hkk:L.length=k at *;have HP:=hid (And.intro hdiff (And.intro hone (And.intro hmem hsml)));have hst:Anew w (w2.setCell ⟨p,3,none⟩ (.int .i64 0)) p g gL n m l L 0:=by
  refine ⟨List.replicate n (0,0,0),fun _=>none,st,⟨hx2.gr' (x:=0) (k:=0) rfl (by omega),Half.zero n L,?_,?_⟩⟩
  ·have:=hrow.kp hk2 (fun e=>hLg e);exact this.kp ((Kp.refl (· = p) _).setCell (p:=⟨p,3,none⟩) rfl _) (fun e=>hLp e)
  ·exact (((Kp.of_new hb1).trans (hk2.mono (G:=Fpg p g) (fun b hb=>Or.inr hb)))).setCell (p:=⟨p,3,none⟩) (Or.inl rfl) _
 have HST:=hid hst;have HKK:=hid hkk;have HCNT:=hid hcnt;clear hrow hb1 hperm hup hx1 hx2 hk2 hclr hsml hdiff hone hmem hst hkk hcnt;have hclr:=HCLR.out;clear HCLR;go_wp2_with fail;clear hclr;have hk96:k≤96:=by have:=HCNT.out;have:=H.out.hn;omega
 go_loopw [23] (fun s23 wr=> ∃j:Nat,j≤k∧s23 = .int .i64 j∧Anew w wr p g gL n m l L j) (fun s23 _=>k-(intOf s23).toNat)
 case atStart=>exact ⟨0,Nat.zero_le _,rfl,HST.out⟩
 case round=>
  obtain ⟨j,hj,rfl,sj,Mj,stj,hA⟩:=hrel;have HA:=hid hA;clear hA;by_cases hlt:j<k
  ·have hltI:(j:Int)<(k:Int):=by omega
   obtain ⟨⟨c,id,v⟩,hs⟩:∃s,L[j]?=some s:=⟨_,List.getElem?_eq_getElem (by rw [HKK.out];exact hlt)⟩;have hc1:c=1:=HP.out.2.1 _ (List.mem_of_getElem? hs);subst hc1;obtain ⟨_,hid9,hv9⟩:=HP.out.2.2.2 _ (List.mem_of_getElem? hs);have hid9:id<4294967296:=hid9;obtain ⟨hmN,i,hfit,hin,hfind⟩:=HA.out.miss (by have:=HCNT.out;omega) hs HP.out.1 hid9;obtain ⟨r0,r1,r2⟩:=HA.out.row.cells hs;have N1:=new1 wr (.cells #[.int .u8 ((1:Nat):Int),.int .u32 id,.int .i64 v] 317);have hxn:=HA.out.ix.new N1.2.2;have HF:=hid (hfind _ hxn);have HN1:=hid N1;have HV:=hid hv9;have HID:=hid hid9;have HFIT:=hid hfit;have HS:=hid hs;have HM:=hid hmN;have hne1:wr.heap.size≠p:=Nat.ne_of_gt (Nat.lt_of_lt_of_le (heap_lt H.out.hd) HA.out.kp.size);clear hfind N1 hxn hv9 hfit hs hmN;go_wp2_with fail;refine HF.out.mono ?_;rintro e w3 ⟨rfl,⟨st3,hx3⟩,hk3⟩;have hvb:=hk3.blk HN1.out.1 hne1;obtain ⟨v0,_,v1,_,v2,_⟩:=cells3 hvb;obtain ⟨q0,_⟩:=cells5 hx3.hd;have fz0:w3.frozen? ⟨g,i*3,none⟩=false:=(blk hx3.wd).2.1 _;have fz1:w3.frozen? ⟨g,i*3+1,none⟩=false:=(blk hx3.wd).2.1 _;have fz2:w3.frozen? ⟨g,i*3+2,none⟩=false:=(blk hx3.wd).2.1 _;obtain ⟨t9,ht9⟩:∃t9,sj[i]?=some t9:=⟨_,List.getElem?_eq_getElem (by rw [hx3.hl];omega)⟩;obtain ⟨y0,y1,y2⟩:=hx3.cells ht9;have hinI:(i:Int)<(n:Int):=by omega
   have HX3:=hid hx3;have HK3:=hid hk3;clear hx3 hk3 hvb ht9;go_wp2_with fail;go_region
   all_goals
    go_wp2_with fail;go_roundw;case rel=>
     refine ⟨j+1,by omega,by go_num,sj.set i (1,id,v),put Mj id v,st3,⟨?_,HA.out.half.step HS.out HM.out HFIT.out,?_,?_⟩⟩
     ·have hz:=HX3.out.put hin (1,id,v) ⟨show 1≤2 by decide,HID.out,HV.out⟩;exact ⟨hz.hd,hz.wd,hz.hl,hz.hn,hz.sm,hz.ml⟩
     ·have h1:=(HA.out.row.new HN1.out.2.2).kp HK3.out hLp;exact h1.kp ((((Kp.refl (· = g) w3).setCell (p:=⟨g,i*3,none⟩) rfl (.int .u8 1)).setCell (p:=⟨g,i*3+1,none⟩) rfl (.int .u32 id)).setCell (p:=⟨g,i*3+2,none⟩) rfl (.int .i64 v)).drew hLg
     ·exact ((((((HA.out.kp.trans (Kp.of_new HN1.out.2.2)).trans (HK3.out.mono (G:=Fpg p g) (fun b hb=>Or.inl hb))).setCell (p:=⟨g,i*3,none⟩) (Or.inr rfl) (.int .u8 1)).setCell (p:=⟨g,i*3+1,none⟩) (Or.inr rfl) (.int .u32 id)).setCell (p:=⟨g,i*3+2,none⟩) (Or.inr rfl) (.int .i64 v))).drew
    case measure=>simp [intOf];omega
  ·have hltI:¬(j:Int)<(k:Int):=by omega
   obtain rfl:j=k:=by omega
   obtain ⟨q0,g0,q1,g1,q2,g2,q3,g3,q4,g4⟩:=cells5 HA.out.ix.hd;go_wp2_with fail;go_end0
   have hM:Mj=M:=by
    funext id
    have hall:L.take j=L:=by rw [←HKK.out];exact List.take_length
    have h1:=HA.out.half.is id;have h2:=HP.out.2.2.1 id;rw [hall] at h1;cases hm:Mj id with
    | some v=>exact ((h2 v).2 ((h1 v).1 hm)).symm
    | none=>
     cases hm2:M id with
     | none=>rfl
     | some v=>rw [(h1 v).2 ((h2 v).1 hm2)] at hm;cases hm
   refine ⟨rfl,⟨sj,?_,by rw [←hM];exact HA.out.half.ok,by rw [HA.out.half.c1,HCNT.out],HA.out.half.c2⟩,HA.out.kp.setCell (p:=⟨p,4,none⟩) (Or.inl rfl) _⟩;exact HA.out.ix.steps rfl
end
end Go.Proofs.YtdjiopacieadpaaGreatDoor
