/- TopNear: part Pai: IxP IxQ HeapPlain HpA HpB HpC HpD. -/
import Derived.Test.YtdjiopacieadpaaGreatDoorPah
import Derived.Lib.QuietBelow
import Derived.BigRegion
import Derived.Deep.DeepCutAuto
set_option linter.unusedVariables false
set_option linter.unusedSimpArgs false
set_option maxRecDepth 8000
set_option maxHeartbeats 8000000
namespace Go.Proofs.YtdjiopacieadpaaGreatDoor
section
open Go.RowKit IdxPlain
theorem Ix.drew {w:World}{p g:Nat}{sl:List St}{n m l gr st:Nat}(h:Ix w p g sl n m l gr st):Ix w.drew p g sl n m l gr st:=⟨h.hd,h.wd,h.hl,h.hn,h.sm,h.ml⟩
theorem iput_there (p:Nat)(F:Nat→Prop)(M:Nat→Option Nat)(m l id v v0:Nat)(w:World)(h:Id w p F M m l)(hid9:id<4294967296)(hM:M id=some v0):Calls Tryz.prog 183 #[.pointer (some ⟨p,0,none⟩),.int .u32 id,.int .i64 v] w fun e w'=>e = .returned (.int .i64 7)∧Id w' p F M m l∧Kp F w w':=by
 obtain ⟨g,sl,n,gr,st,h⟩:=h;have H:=hid h;have HX:=hid h.ix;obtain ⟨i,hi,hil,hc⟩:=find_yes h hid9 hM;have HF:=hid hc;clear h hi hc hM;go_enter Tryz.func183,Tryz.ntmps183;go_wp2_with fail;refine (imade_any p g sl n m l gr st _ HX.out).mono ?_;rintro e w' ⟨rfl,rfl⟩;go_wp2_with fail;refine HF.out.mono ?_;rintro e w2 ⟨rfl,⟨st2,hi2⟩,hk2⟩;have HI2:=hid hi2;have HK2:=hid hk2;clear hi2 hk2;go_wp2_with fail;go_ret;have hk:=HK2.out.mono (G:=F) (fun b hb=>by rw [hb];exact H.out.fp);exact ⟨rfl,H.out.back HI2.out hk H.out.ok H.out.cl H.out.cg H.out.few H.out.lm,hk⟩
theorem taken {sl:List St}{n i id v:Nat}(hf:Fit hashF sl n id i)(hsm:∀s∈sl,Sm s):∃s,sl[i]?=some s∧cnt 1 (sl.set i (1,id,v))=cnt 1 sl+1∧((s.1=0∧cnt 2 (sl.set i (1,id,v))=cnt 2 sl)∨(s.1=2∧cnt 2 (sl.set i (1,id,v))+1=cnt 2 sl)):=by
 obtain ⟨s,j0,hs,hs1,_⟩:=hf;have a1:=cnt_set 1 sl i s (1,id,v) hs;have a2:=cnt_set 2 sl i s (1,id,v) hs;have h2:=(hsm s (List.mem_of_getElem? hs)).1;refine ⟨s,hs,?_,?_⟩
 ·rw [if_neg hs1,if_pos rfl] at a1;omega
 ·rw [if_neg (show ¬((1,id,v):St).1=2 from (by decide:¬(1:Nat)=2))] at a2;by_cases e:s.1=2
  ·rw [if_pos e] at a2;exact Or.inr ⟨e,by omega⟩
  ·rw [if_neg e] at a2;exact Or.inl ⟨by omega,by omega⟩
theorem Put.close {w w':World}{p g:Nat}{F:Nat→Prop}{M:Nat→Option Nat}{m:Nat}{sl:List St}{n l gr st:Nat}(h:IdP w p g F M m sl n l gr st){id v i:Nat}(hM:M id=none)(hf:Fit hashF sl n id i){sl':List St}{gr' st':Nat}(hx:Ix w' p g sl' n m (l+1) gr' st')(hk:Kp F w w')(ho:Ok hashF sl' n (put M id v))(h1:cnt 1 sl'=l+1)(h2:cnt 2 sl'=gr')(hl:l<m)(hf:4*(l+1+gr')≤3*n):Id w' p F (put M id v) m (l+1)∧Kp F w w':=
 ⟨h.back hx hk ho h1.symm h2.symm hf (by omega),hk⟩
theorem iput_new (p:Nat)(F:Nat→Prop)(M:Nat→Option Nat)(m l id v:Nat)(w:World)(h:Id w p F M m l)(hid9:id<4294967296)(hM:M id=none)(hv:v<1024)(hlm:l<m):Calls Tryz.prog 183 #[.pointer (some ⟨p,0,none⟩),.int .u32 id,.int .i64 v] w fun e w'=>e = .returned (.int .i64 0)∧Id w' p F (put M id v) m (l+1)∧Kp F w w':=by
 obtain ⟨g,sl,n,gr,st,h⟩:=h;have H:=hid h;have HX:=hid h.ix;obtain ⟨i,hi,hil,hc⟩:=find_no h hid9 hM;obtain ⟨s,hs,t1,t2⟩:=taken (v:=v) hi h.ix.sm;have HF:=hid hc;have HI:=hid hi;have HM:=hid hM;have HS:=hid hs;have HT1:=hid t1;have hmn:=h.mn;have hn96:=h.ix.hn;have hml:=h.ix.ml;have HCG:=hid h.cg;have hneq:((l:Int) == (m:Int))=false:=by simp;omega
 have hilI:(i:Int)<(n:Int):=by omega
 clear h hi hc hM hs t1;rcases t2 with ⟨hs0,t2⟩ | ⟨hs0,t2⟩
 ·have HT2:=hid t2;clear t2;go_enter Tryz.func183,Tryz.ntmps183;go_wp2_with fail;refine (imade_any p g sl n m l gr st _ HX.out).mono ?_;rintro e w' ⟨rfl,rfl⟩;go_wp2_with fail;refine HF.out.mono ?_;rintro e w2 ⟨rfl,⟨st2,hi2⟩,hk2⟩;obtain ⟨c0,f0,c1,f1,c2,f2,c3,f3,c4,f4⟩:=cells5 hi2.hd;obtain ⟨d0,d1,d2⟩:=hi2.cells HS.out;rw [hs0] at d0;have fz0:w2.frozen? ⟨g,i*3,none⟩=false:=(blk hi2.wd).2.1 _;have fz1:w2.frozen? ⟨g,i*3+1,none⟩=false:=(blk hi2.wd).2.1 _;have fz2:w2.frozen? ⟨g,i*3+2,none⟩=false:=(blk hi2.wd).2.1 _;have hpg:=hi2.ne;have hgp:g≠p:=fun e=>hpg e.symm
  have HI2:=hid hi2;have HK2:=hid hk2;clear hi2 hk2;go_wp2_with fail;go_region
  go_wp2_with fail;obtain ⟨w4,hwe⟩:∃w4:World,w4=((((w2.setCell ⟨g,i*3,none⟩ (.int .u8 1)).setCell ⟨g,i*3+1,none⟩ (.int .u32 id)).setCell ⟨g,i*3+2,none⟩ (.int .i64 v)).setCell ⟨p,2,none⟩ (.int .i64 ((l:Int)+1))).drew :=⟨_,rfl⟩;rw [←hwe];have hi4:Ix w4 p g (sl.set i (1,id,v)) n m (l+1) gr st2:=by
   rw [hwe];exact ((HI2.out.put hil (1,id,v) ⟨show 1≤2 by decide,hid9,hv⟩).len' (x:=(l:Int)+1) (k:=l+1) (by omega) (by omega)).drew
  have hk4:Kp F w w4:=by
   rw [hwe];exact (((((HK2.out.mono (G:=F) (fun b hb=>by rw [hb];exact H.out.fp)).setCell (p:=⟨g,i*3,none⟩) H.out.fg (.int .u8 1)).setCell (p:=⟨g,i*3+1,none⟩) H.out.fg (.int .u32 id)).setCell (p:=⟨g,i*3+2,none⟩) H.out.fg (.int .i64 v)).setCell (p:=⟨p,2,none⟩) H.out.fp (.int .i64 ((l:Int)+1))).drew
  have HI4:=hid hi4;have HK4:=hid hk4;obtain ⟨c0,f0,c1,f1,c2,f2,c3,f3,c4,f4⟩:=cells5 hi4.hd;have HI4':=hid hi4.drew;have HK4':=hid hk4.drew;clear hi4 hk4 hwe;by_cases hbig:4*(l+1+gr)>3*n
  ·have hbigI:4*(((l+1:Nat):Int)+((gr:Nat):Int))>3*(n:Int):=by omega
   have HAN:=hid (anew_any p F (put M id v) m (l+1) n (gr) st2 g (sl.set i (1,id,v)) w4.drew HI4'.out (put_ok H.out.ok HM.out HI.out) (by rw [HT1.out,←H.out.cl];omega));go_wp2_with fail;go_region
   all_goals
    go_wp2_with fail;refine HAN.out.mono ?_;rintro e w5 ⟨rfl,⟨sl5,hi5,ho5,h15,h25⟩,hk5⟩;have HI5:=hid hi5;have HO5:=hid ho5;have H15:=hid h15;have H25:=hid h25;have HK5:=hid hk5;clear hi5 ho5 h15 h25 hk5;go_wp2_with fail;go_ret;have hk9:Kp F w w5:=HK4'.out.trans (HK5.out.mono (fun b hb=>by rcases hb with hb | hb<;>rw [hb];exact H.out.fp;exact H.out.fg));refine ⟨rfl,Put.close H.out HM.out HI.out HI5.out hk9 HO5.out ?_ H25.out hlm (by omega)⟩;rw [H15.out,HT1.out,←H.out.cl]
  ·have hbigI:¬4*(((l+1:Nat):Int)+((gr:Nat):Int))>3*(n:Int):=by omega
   go_wp2_with fail;go_region
   all_goals
    go_wp2_with fail;go_ret;refine ⟨rfl,Put.close H.out HM.out HI.out HI4'.out HK4'.out (put_ok H.out.ok HM.out HI.out) ?_ ?_ hlm (by omega)⟩
    ·rw [HT1.out,←H.out.cl]
    ·have:=HT2.out;have:=HCG.out;omega
 ·have HT2:=hid t2;have hgr:0<gr:=by have:=HCG.out;omega
  clear t2;go_enter Tryz.func183,Tryz.ntmps183;go_wp2_with fail;refine (imade_any p g sl n m l gr st _ HX.out).mono ?_;rintro e w' ⟨rfl,rfl⟩;go_wp2_with fail;refine HF.out.mono ?_;rintro e w2 ⟨rfl,⟨st2,hi2⟩,hk2⟩;obtain ⟨c0,f0,c1,f1,c2,f2,c3,f3,c4,f4⟩:=cells5 hi2.hd;obtain ⟨d0,d1,d2⟩:=hi2.cells HS.out;rw [hs0] at d0;have fz0:w2.frozen? ⟨g,i*3,none⟩=false:=(blk hi2.wd).2.1 _;have fz1:w2.frozen? ⟨g,i*3+1,none⟩=false:=(blk hi2.wd).2.1 _;have fz2:w2.frozen? ⟨g,i*3+2,none⟩=false:=(blk hi2.wd).2.1 _;have hpg:=hi2.ne;have hgp:g≠p:=fun e=>hpg e.symm
  have HI2:=hid hi2;have HK2:=hid hk2;clear hi2 hk2;go_wp2_with fail;go_region
  go_wp2_with fail;obtain ⟨w4,hwe⟩:∃w4:World,w4=(((((w2.setCell ⟨p,3,none⟩ (.int .i64 ((gr:Int)-1))).setCell ⟨g,i*3,none⟩ (.int .u8 1)).setCell ⟨g,i*3+1,none⟩ (.int .u32 id)).setCell ⟨g,i*3+2,none⟩ (.int .i64 v)).setCell ⟨p,2,none⟩ (.int .i64 ((l:Int)+1))).drew :=⟨_,rfl⟩;rw [←hwe];have hi4:Ix w4 p g (sl.set i (1,id,v)) n m (l+1) (gr-1) st2:=by
   rw [hwe];exact (((HI2.out.gr' (x:=(gr:Int)-1) (k:=gr-1) (by omega) (by omega)).put hil (1,id,v) ⟨show 1≤2 by decide,hid9,hv⟩).len' (x:=(l:Int)+1) (k:=l+1) (by omega) (by omega)).drew
  have hk4:Kp F w w4:=by
   rw [hwe];exact ((((((HK2.out.mono (G:=F) (fun b hb=>by rw [hb];exact H.out.fp)).setCell (p:=⟨p,3,none⟩) H.out.fp (.int .i64 ((gr:Int)-1))).setCell (p:=⟨g,i*3,none⟩) H.out.fg (.int .u8 1)).setCell (p:=⟨g,i*3+1,none⟩) H.out.fg (.int .u32 id)).setCell (p:=⟨g,i*3+2,none⟩) H.out.fg (.int .i64 v)).setCell (p:=⟨p,2,none⟩) H.out.fp (.int .i64 ((l:Int)+1))).drew
  have HI4:=hid hi4;have HK4:=hid hk4;obtain ⟨c0,f0,c1,f1,c2,f2,c3,f3,c4,f4⟩:=cells5 hi4.hd;have HI4':=hid hi4.drew;have HK4':=hid hk4.drew;clear hi4 hk4 hwe;by_cases hbig:4*(l+1+(gr-1))>3*n
  ·have hbigI:4*(((l+1:Nat):Int)+((gr-1:Nat):Int))>3*(n:Int):=by omega
   have HAN:=hid (anew_any p F (put M id v) m (l+1) n (gr-1) st2 g (sl.set i (1,id,v)) w4.drew HI4'.out (put_ok H.out.ok HM.out HI.out) (by rw [HT1.out,←H.out.cl];omega));go_wp2_with fail;go_region
   all_goals
    go_wp2_with fail;refine HAN.out.mono ?_;rintro e w5 ⟨rfl,⟨sl5,hi5,ho5,h15,h25⟩,hk5⟩;have HI5:=hid hi5;have HO5:=hid ho5;have H15:=hid h15;have H25:=hid h25;have HK5:=hid hk5;clear hi5 ho5 h15 h25 hk5;go_wp2_with fail;go_ret;have hk9:Kp F w w5:=HK4'.out.trans (HK5.out.mono (fun b hb=>by rcases hb with hb | hb<;>rw [hb];exact H.out.fp;exact H.out.fg));refine ⟨rfl,Put.close H.out HM.out HI.out HI5.out hk9 HO5.out ?_ H25.out hlm (by omega)⟩;rw [H15.out,HT1.out,←H.out.cl]
  ·have hbigI:¬4*(((l+1:Nat):Int)+((gr-1:Nat):Int))>3*(n:Int):=by omega
   go_wp2_with fail;go_region
   all_goals
    go_wp2_with fail;go_ret;refine ⟨rfl,Put.close H.out HM.out HI.out HI4'.out HK4'.out (put_ok H.out.ok HM.out HI.out) ?_ ?_ hlm (by omega)⟩
    ·rw [HT1.out,←H.out.cl]
    ·have:=HT2.out;have:=HCG.out;omega
structure Lists (M:Nat→Option Nat)(l:Nat)(L:List St):Prop where
 up:L.Pairwise fun a b=>a.2.1<b.2.1
 one:∀s∈L,s.1=1
 is:∀id v,M id=some v↔(1,id,v)∈L
 len:L.length=l
 sm:∀s∈L,Sm s
theorem lists_of {sl:List St}{n:Nat}{M:Nat→Option Nat}(h:Ok hashF sl n M)(hs:∀s∈sl,Sm s){L:List St}(hp:L.Perm (sl.filter fun s=>s.1 == 1))(hu:Up L):Lists M (cnt 1 sl) L:=by
 obtain ⟨h1,h2,h3,h4⟩:=ids_differ h hp;refine ⟨?_,h2,h3,h4,fun s hs'=>hs s (List.mem_filter.1 (hp.mem_iff.1 hs')).1⟩;exact (hu.and h1).imp (fun ⟨a,b⟩=>Nat.lt_of_le_of_ne a b)
def IAll (w w':World)(M:Nat→Option Nat)(l:Nat)(e:Ending):Prop:= ∃A g cap L,e = .returned (.func (.func 197) #[] #[.pointer (some ⟨A,0,none⟩)])∧w.heap.size≤A∧w.heap.size≤g∧w'.heap[A]?=some (Obj.cells #[.slice (some ⟨g,0,none⟩) L.length cap] 254 (0,0))∧R3 w' g L∧Below w.heap.size w w'∧Lists M l L
theorem iall_any (p:Nat)(F:Nat→Prop)(M:Nat→Option Nat)(m l:Nat)(w:World)(h:Id w p F M m l):Calls Tryz.prog 164 #[.pointer (some ⟨p,0,none⟩)] w fun e w'=>IAll w w' M l e:=by
 obtain ⟨g,sl,n,gr,st,h⟩:=h;have H:=hid h;have N:=new1 w (.cells #[.slice none 0 0] 254);have HX:=hid (h.ix.new N.2.2);have HIT:=hid (items_any p g sl n m l gr st _ HX.out);have HN:=hid N;clear h N;go_enter Tryz.func164,Tryz.ntmps164;go_wp2_with fail;refine (imade_any p g sl n m l gr st _ HX.out).mono ?_;rintro e w' ⟨rfl,rfl⟩;go_wp2_with fail;refine HIT.out.mono ?_;rintro e w2 ⟨g2,cap,L,rfl,hg2,hr2,hb2,hp2,hu2⟩;have hA:=Bl.blk hb2 HN.out.1;obtain ⟨cA,fA⟩:=cells1 hA;have hset:=heap_setCell_same w2 w.heap.size 0 _ 254 (.slice (some ⟨g2,0,none⟩) L.length cap) hA;have hsz:=HN.out.2.1;have hgA:g2≠w.heap.size:=by omega
 have hE:IAll w (w2.setCell ⟨w.heap.size,0,none⟩ (.slice (some ⟨g2,0,none⟩) L.length cap)) M l (.returned (.func (.func 197) #[] #[.pointer (some ⟨w.heap.size,0,none⟩)])):=by
  have hl:=lists_of H.out.ok H.out.ix.sm hp2 hu2;rw [←H.out.cl] at hl;refine ⟨w.heap.size,g2,cap,L,rfl,Nat.le_refl _,by omega,by simpa using hset,?_,?_,hl⟩
  ·exact hr2.kp ((Kp.refl (· = w.heap.size) w2).setCell (p:=⟨w.heap.size,0,none⟩) rfl _) hgA
  ·exact (HN.out.2.2.trans (hb2.mono (by omega))).setCell (Nat.le_refl _) _
 have HE:=hid hE;clear hg2 hr2 hb2 hp2 hu2 hA hset hgA hE;go_wp2_with fail;go_ret;exact HE.out
end
end Go.Proofs.YtdjiopacieadpaaGreatDoor
namespace HeapPlain
section
abbrev It:=Nat×Nat×Nat
def lt (a b:It):Prop:=a.1<b.1∨a.1=b.1∧(a.2.1<b.2.1∨a.2.1=b.2.1∧a.2.2<b.2.2)
def le (a b:It):Prop:= ¬lt b a
instance (a b:It):Decidable (lt a b):=by unfold lt;infer_instance
theorem lt_le {a b:It}(h:lt a b):le a b:=by unfold le;unfold lt at *;omega
theorem le_refl (a:It):le a a:=by unfold le lt;omega
theorem le_trans {a b c:It}(h:le a b)(k:le b c):le a c:=by unfold le lt at *;omega
def z:It:=(0,0,0)
def ge (l:List It)(i:Nat):It:=l.getD i z
theorem ge_of {l:List It}{i:Nat}{x:It}(h:l[i]?=some x):ge l i=x:=by unfold ge;rw [List.getD_eq_getElem?_getD,h];rfl
theorem of_ge {l:List It}{i:Nat}(h:i<l.length):l[i]?=some (ge l i):=by
 have:=List.getElem?_eq_getElem h;rw [ge_of this];exact this
def sw (l:List It)(i k:Nat):List It:=(l.set i (ge l k)).set k (ge l i)
theorem sw_len (l:List It)(i k:Nat):(sw l i k).length = l.length:=by unfold sw;simp
theorem sw_get {l:List It}{i k:Nat}(hi:i<l.length)(hk:k<l.length)(p:Nat):(sw l i k)[p]?=if p=k then some (ge l i) else if p=i then some (ge l k) else l[p]? :=by
 unfold sw;rw [List.getElem?_set,List.getElem?_set,List.length_set];by_cases e1:p=k
 ·subst e1;simp [hk]
 ·have e2:¬k=p:=fun e=>e1 e.symm
  rw [if_neg e2,if_neg e1];by_cases e3:p=i
  ·subst e3;simp [hi]
  ·have e4:¬i=p:=fun e=>e3 e.symm
   rw [if_neg e4,if_neg e3]
theorem sw_ge {l:List It}{i k:Nat}(hi:i<l.length)(hk:k<l.length)(p:Nat):ge (sw l i k) p=if p=k then ge l i else if p=i then ge l k else ge l p:=by
 unfold ge;rw [List.getD_eq_getElem?_getD,sw_get hi hk];split
 ·rfl
 ·split
  ·rfl
  ·rw [List.getD_eq_getElem?_getD]
theorem sw_mem {l:List It}{i k:Nat}(hi:i<l.length)(hk:k<l.length)(x:It):x∈sw l i k↔x∈l:=by
 constructor
 ·intro h;obtain ⟨p,hp⟩:=List.getElem?_of_mem h;rw [sw_get hi hk] at hp;split at hp
  ·injection hp with hp;subst hp;exact List.mem_of_getElem? (of_ge hi)
  ·split at hp
   ·injection hp with hp;subst hp;exact List.mem_of_getElem? (of_ge hk)
   ·exact List.mem_of_getElem? hp
 ·intro h;obtain ⟨p,hp⟩:=List.getElem?_of_mem h;by_cases e1:p=i
  ·subst e1;refine List.mem_of_getElem? (i:=k) ?_;rw [sw_get hi hk,if_pos rfl,←hp,of_ge hi]
  ·by_cases e2:p=k
   ·subst e2;refine List.mem_of_getElem? (i:=i) ?_;rw [sw_get hi hk];rw [if_neg (fun e=>e1 e.symm),if_pos rfl,←hp,of_ge hk]
   ·refine List.mem_of_getElem? (i:=p) ?_;rw [sw_get hi hk,if_neg e2,if_neg e1];exact hp
def Hb (l:List It)(a:Nat):Prop:=
 (∀i,0<i→i<l.length→i≠a→(i-1) / 2≠a→le (ge l ((i-1) / 2)) (ge l i))∧(∀c,0<c→c<l.length→(c-1) / 2=a→0<a→le (ge l ((a-1) / 2)) (ge l c))
def Hd (l:List It)(a:Nat):Prop:=
 (∀i,0<i→i<l.length→(i-1) / 2≠a→le (ge l ((i-1) / 2)) (ge l i))∧(∀c,0<c→c<l.length→(c-1) / 2=a→0<a→le (ge l ((a-1) / 2)) (ge l c))
def Ord (l:List It):Prop:= ∀i,0<i→i<l.length→le (ge l ((i-1) / 2)) (ge l i)
theorem Hb.up {l:List It}{a:Nat}(h:Hb l a)(h0:0<a)(ha:a<l.length)(hlt:lt (ge l a) (ge l ((a-1) / 2))):Hb (sw l a ((a-1) / 2)) ((a-1) / 2):=by
 obtain ⟨p,hp⟩:∃p,(a-1) / 2=p:=⟨_,rfl⟩;rw [hp] at hlt ⊢;have hpl:p<l.length:=by omega
 obtain ⟨h1,h2⟩:=h;refine ⟨?_,?_⟩
 ·intro i hi hil hip hq;rw [sw_len] at hil;rw [sw_ge ha hpl,sw_ge ha hpl,if_neg hq,if_neg hip];have hia:i≠a:=fun e=>hq (by rw [e];exact hp)
  rw [if_neg hia];by_cases e:(i-1) / 2=a
  ·rw [if_pos e,←hp];exact h2 i hi hil e h0
  ·rw [if_neg e];exact h1 i hi hil hia e
 ·intro c hc hcl hcp hp0;rw [sw_len] at hcl;rw [sw_ge ha hpl,sw_ge ha hpl,if_neg (by omega),if_neg (by omega),if_neg (by omega:¬c=p)];have hpp:=h1 p hp0 hpl (by omega) (by omega);by_cases e:c=a
  ·rw [if_pos e];exact hpp
  ·rw [if_neg e];have:=h1 c hc hcl e (by omega);rw [hcp] at this;exact le_trans hpp this
theorem Hb.done {l:List It}{a:Nat}(h:Hb l a)(hd:a=0∨ ¬lt (ge l a) (ge l ((a-1) / 2))):Hd l a:=by
 refine ⟨?_,h.2⟩;intro i hi hil hq;by_cases e:i=a
 ·subst e;rcases hd with e | e
  ·omega
  ·exact e
 ·exact h.1 i hi hil e hq
def Least (l:List It)(a m:Nat):Prop:=le (ge l m) (ge l a)∧ ∀k,0<k→k<l.length→(k-1) / 2=a→le (ge l m) (ge l k)
theorem Hd.done {l:List It}{a:Nat}(h:Hd l a)(hm:Least l a a):Ord l:=by
 intro i hi hil;by_cases e:(i-1) / 2=a
 ·rw [e];exact hm.2 i hi hil e
 ·exact h.1 i hi hil e
theorem Hd.down {l:List It}{a m:Nat}(h:Hd l a)(hm:Least l a m)(h0:0<m)(hml:m<l.length)(hp:(m-1) / 2=a):Hd (sw l a m) m:=by
 have ha:a<l.length:=by omega
 obtain ⟨h1,h2⟩:=h;refine ⟨?_,?_⟩
 ·intro i hi hil hq;rw [sw_len] at hil;rw [sw_ge ha hml,sw_ge ha hml,if_neg hq];by_cases e:(i-1) / 2=a
  ·rw [if_pos e];by_cases e2:i=m
   ·rw [if_pos e2];exact hm.1
   ·rw [if_neg e2,if_neg (by omega)];exact hm.2 i hi hil e
  ·rw [if_neg e];by_cases e2:i=m
   ·exact absurd (by rw [e2];exact hp) e
   ·rw [if_neg e2];by_cases e3:i=a
    ·rw [if_pos e3,e3];exact h2 m h0 hml hp (by omega)
    ·rw [if_neg e3];exact h1 i hi hil e
 ·intro c hc hcl hcm hm0;rw [sw_len] at hcl;rw [sw_ge ha hml,sw_ge ha hml,if_neg (by omega),if_pos hp,if_neg (by omega:¬c=m),if_neg (by omega:¬c=a)];have:=h1 c hc hcl (by omega);rw [hcm] at this;exact this
theorem Ord.least {l:List It}(h:Ord l):∀i,i<l.length→le (ge l 0) (ge l i):=by
 intro i;induction i using Nat.strongRecOn with
 | ind i ih=>
  intro hi;by_cases e:i=0
  ·subst e;exact le_refl _
  ·exact le_trans (ih ((i-1) / 2) (by omega) (by omega)) (h i (by omega) hi)
def Pl (l:List It)(pl:Nat→Option Nat):Prop:= ∀h i,pl h=some i↔ ∃x,l[i]?=some x∧x.2.2=h
def upd (pl:Nat→Option Nat)(h i:Nat):Nat→Option Nat:=fun k=>if k=h then some i else pl k
def del (pl:Nat→Option Nat)(h:Nat):Nat→Option Nat:=fun k=>if k=h then none else pl k
theorem Pl.inj {l:List It}{pl:Nat→Option Nat}(H:Pl l pl){i k:Nat}(hi:i<l.length)(hk:k<l.length)(he:(ge l i).2.2=(ge l k).2.2):i=k:=by
 have h1:=(H (ge l i).2.2 i).2 ⟨_,of_ge hi,rfl⟩;have h2:=(H (ge l i).2.2 k).2 ⟨_,of_ge hk,he.symm⟩;rw [h1] at h2;injection h2
theorem Pl.sw {l:List It}{pl:Nat→Option Nat}(H:Pl l pl){i k:Nat}(hi:i<l.length)(hk:k<l.length):Pl (HeapPlain.sw l i k) (upd (upd pl (ge l k).2.2 i) (ge l i).2.2 k):=by
 intro h p;unfold upd;by_cases e1:h=(ge l i).2.2
 ·rw [if_pos e1];constructor
  ·intro e;injection e with e;subst e;exact ⟨_,by rw [sw_get hi hk,if_pos rfl],e1.symm⟩
  ·rintro ⟨x,hx,hxh⟩;rw [sw_get hi hk] at hx;split at hx
   ·rename_i e;rw [e]
   ·split at hx
    ·rename_i e2 e3;injection hx with hx;subst hx;have:=H.inj hk hi (by rw [hxh,e1]);omega
    ·rename_i e2 e3;have h1:=(H h p).2 ⟨x,hx,hxh⟩;have h2:=(H h i).2 ⟨_,of_ge hi,e1.symm⟩;rw [h1] at h2;injection h2 with h2;omega
 ·rw [if_neg e1];by_cases e2:h=(ge l k).2.2
  ·rw [if_pos e2];have hik:i≠k:=fun e=>e1 (by rw [e2,e])
   constructor
   ·intro e;injection e with e;subst e;exact ⟨_,by rw [sw_get hi hk,if_neg hik,if_pos rfl],e2.symm⟩
   ·rintro ⟨x,hx,hxh⟩;rw [sw_get hi hk] at hx;split at hx
    ·injection hx with hx;subst hx;exact absurd hxh.symm e1
    ·split at hx
     ·rename_i e3;rw [e3]
     ·rename_i e3 e4;have h1:=(H h p).2 ⟨x,hx,hxh⟩;have h2:=(H h k).2 ⟨_,of_ge hk,e2.symm⟩;rw [h1] at h2;injection h2 with h2;omega
  ·rw [if_neg e2];rw [H h p];constructor
   ·rintro ⟨x,hx,hxh⟩;refine ⟨x,?_,hxh⟩;have hpi:p≠i:=fun e=>by rw [e,of_ge hi] at hx;injection hx with hx;exact e1 (by rw [hx];exact hxh.symm)
    have hpk:p≠k:=fun e=>by rw [e,of_ge hk] at hx;injection hx with hx;exact e2 (by rw [hx];exact hxh.symm)
    rw [sw_get hi hk,if_neg hpk,if_neg hpi];exact hx
   ·rintro ⟨x,hx,hxh⟩;refine ⟨x,?_,hxh⟩;rw [sw_get hi hk] at hx;split at hx
    ·injection hx with hx;subst hx;exact absurd hxh.symm e1
    ·split at hx
     ·injection hx with hx;subst hx;exact absurd hxh.symm e2
     ·exact hx
theorem Pl.push {l:List It}{pl:Nat→Option Nat}(H:Pl l pl){x:It}(hx:pl x.2.2=none):Pl (l++[x]) (upd pl x.2.2 l.length):=by
 intro h p;unfold upd;by_cases e:h=x.2.2
 ·rw [if_pos e];constructor
  ·intro e2;injection e2 with e2;subst e2;exact ⟨x,by simp,e.symm⟩
  ·rintro ⟨y,hy,hyh⟩;rw [List.getElem?_append] at hy;split at hy
   ·have:=(H h p).2 ⟨y,hy,hyh⟩;rw [e,hx] at this;cases this
   ·rename_i hp;obtain ⟨d,hd⟩:∃d,p-l.length=d:=⟨_,rfl⟩;rw [hd] at hy;cases d with
    | zero=>rw [show p=l.length from by omega]
    | succ d=>simp at hy
 ·rw [if_neg e,H h p];constructor
  ·rintro ⟨y,hy,hyh⟩;refine ⟨y,?_,hyh⟩;rw [List.getElem?_append_left (List.getElem?_eq_some_iff.1 hy).1];exact hy
  ·rintro ⟨y,hy,hyh⟩;refine ⟨y,?_,hyh⟩;rw [List.getElem?_append] at hy;split at hy
   ·exact hy
   ·obtain ⟨d,hd⟩:∃d,p-l.length=d:=⟨_,rfl⟩;rw [hd] at hy;cases d with
    | zero=>simp at hy;subst hy;exact absurd hyh.symm e
    | succ d=>simp at hy
theorem Pl.pop {l:List It}{pl:Nat→Option Nat}{x:It}(H:Pl (l++[x]) pl):Pl l (del pl x.2.2):=by
 intro h p;unfold del;have hlast:pl x.2.2=some l.length:=(H x.2.2 l.length).2 ⟨x,by simp,rfl⟩;by_cases e:h=x.2.2
 ·rw [if_pos e];constructor
  ·intro e2;cases e2
  ·rintro ⟨y,hy,hyh⟩;have hp:=(List.getElem?_eq_some_iff.1 hy).1;have:=(H h p).2 ⟨y,by rw [List.getElem?_append_left hp];exact hy,hyh⟩;rw [e,hlast] at this;injection this with this;omega
 ·rw [if_neg e,H h p];constructor
  ·rintro ⟨y,hy,hyh⟩;refine ⟨y,?_,hyh⟩;rw [List.getElem?_append] at hy;split at hy
   ·exact hy
   ·obtain ⟨d,hd⟩:∃d,p-l.length=d:=⟨_,rfl⟩;rw [hd] at hy;cases d with
    | zero=>simp at hy;subst hy;exact absurd hyh.symm e
    | succ d=>simp at hy
  ·rintro ⟨y,hy,hyh⟩;refine ⟨y,?_,hyh⟩;rw [List.getElem?_append_left (List.getElem?_eq_some_iff.1 hy).1];exact hy
theorem Ord.push {l:List It}(h:Ord l)(x:It):Hb (l++[x]) l.length:=by
 have hg:∀i,i<l.length→ge (l++[x]) i=ge l i:=by
  intro i hi;unfold ge;rw [List.getD_eq_getElem?_getD,List.getD_eq_getElem?_getD,List.getElem?_append_left hi]
 refine ⟨?_,?_⟩
 ·intro i hi hil hne hq;rw [List.length_append] at hil;simp at hil;rw [hg i (by omega),hg _ (by omega)];exact h i hi (by omega)
 ·intro c hc hcl hcp hp;rw [List.length_append] at hcl;simp at hcl;omega
theorem Ord.take {l:List It}{x:It}(h:Ord (l++[x])){a:Nat}(ha:a<l.length):Hb (l.set a x) a:=by
 have hg:∀i,i<l.length→i≠a→ge (l.set a x) i=ge (l++[x]) i:=by
  intro i hi hne;unfold ge;rw [List.getD_eq_getElem?_getD,List.getD_eq_getElem?_getD,List.getElem?_append_left hi,List.getElem?_set,if_neg (fun e=>hne e.symm)]
 refine ⟨?_,?_⟩
 ·intro i hi hil hne hq;rw [List.length_set] at hil;rw [hg i hil hne,hg _ (by omega) hq];exact h i hi (by rw [List.length_append];simp;omega)
 ·intro c hc hcl hcp hp;rw [List.length_set] at hcl;rw [hg c hcl (by omega),hg _ (by omega) (by omega)];have h1:=h a hp (by rw [List.length_append];simp;omega);have h2:=h c hc (by rw [List.length_append];simp;omega);rw [hcp] at h2;exact le_trans h1 h2
end
end HeapPlain
namespace Go.Proofs.YtdjiopacieadpaaGreatDoor
section
open Go.RowKit HeapPlain
def dueV (a b:Nat):Value:= .agg #[.int .i64 a,.int .u32 b]
def dlt (a b c d:Nat):Bool:=decide (a<c∨a=c∧b<d)
theorem less_any (a b c d:Nat)(w:World):Calls Tryz.prog 109 #[dueV a b,dueV c d] w fun e w'=>e = .returned (.bool (dlt a b c d))∧Below w.heap.size w w':=by
 have hb:=(new2 w (.cells #[.int .i64 a,.int .u32 b] 214) (.cells #[.int .i64 c,.int .u32 d] 214)).2.2.2;unfold dueV;by_cases h1:a<c
 ·have hI:(a:Int)<(c:Int):=by omega
  have hr:dlt a b c d=true:=by unfold dlt;simp [h1]
  rw [hr];clear h1 hr;go_enter Tryz.func109,Tryz.ntmps109;go_wp2_with fail;go_ret;exact ⟨rfl,hb⟩
 ·have hI:¬(a:Int)<(c:Int):=by omega
  by_cases h2:a=c
  ·subst h2;have hr:dlt a b a d=decide ((b:Int)<(d:Int)):=by unfold dlt;simp
   rw [hr];clear hr h1;go_enter Tryz.func109,Tryz.ntmps109;go_wp2_with fail;go_ret;exact ⟨rfl,hb⟩
  ·have hI2:((a:Int) == (c:Int))=false:=by simp;omega
   have hr:dlt a b c d=false:=by unfold dlt;simp [h1,h2]
   rw [hr];clear hr h1 h2;go_enter Tryz.func109,Tryz.ntmps109;go_wp2_with fail;go_ret;exact ⟨rfl,hb⟩
def itC (x:It):List Value:=[.int .i64 x.1,.int .u32 x.2.1,.int .i64 x.2.2]
theorem itC_len (L:List It):(L.flatMap itC).length = L.length*3:=by
 induction L with
 | nil=>rfl
 | cons s L ih=>simp only [List.flatMap_cons,List.length_append,List.length_cons,ih];simp [itC];omega
theorem itC_get:∀(L:List It) (i j:Nat),j<3→(L.flatMap itC)[i*3+j]?=(L[i]?).bind (fun s=>(itC s)[j]?)
 | [],i,j,hj=>by simp
 | s::L,0,j,hj=>by
  simp only [List.flatMap_cons,Nat.zero_mul,Nat.zero_add,List.getElem?_cons_zero,Option.bind_some];rw [List.getElem?_append_left (by simp [itC];omega)]
 | s::L,i+1,j,hj=>by
  simp only [List.flatMap_cons,List.getElem?_cons_succ];rw [List.getElem?_append_right (by simp [itC];omega),show (i+1)*3+j-(itC s).length = i*3+j by simp [itC];omega];exact itC_get L i j hj
def plF (pl:Nat→Option Nat):Int→Option Value:=fun i=>if 0≤i then (pl i.toNat).map (fun k:Nat=>Value.int .i64 k) else none
structure Hp (w:World)(p q mb cap nx n:Nat)(L:List It)(pl:Nat→Option Nat):Prop where
 hd:w.heap[p]?=some (Obj.cells #[.func (.func 109) #[] #[],.slice (some ⟨q,0,none⟩) L.length cap,.map (some mb),.int .i64 nx] 260 (0,0))
 row:∃X:List Value,w.heap[q]?=some (Obj.cells (L.flatMap itC++X).toArray 321 (0,0))∧(L.flatMap itC++X).length = cap*3
 cp:L.length≤cap∧cap≤maxLen
 mp:Mf w .i64 3 mb n (plF pl)
theorem Hp.cells {w:World}{p q mb cap nx n:Nat}{L:List It}{pl:Nat→Option Nat}(h:Hp w p q mb cap nx n L pl){i:Nat}(hi:i<L.length):
 w.cell? ⟨q,i*3,none⟩=some (.int .i64 ((ge L i).1:Int))∧w.cell? ⟨q,i*3+1,none⟩=some (.int .u32 ((ge L i).2.1:Int))∧w.cell? ⟨q,i*3+2,none⟩=some (.int .i64 ((ge L i).2.2:Int)):=by
 obtain ⟨X,hX,_⟩:=h.row;have hb:=(blk hX).1;have get:∀j,j<3→w.cell? ⟨q,i*3+j,none⟩=(itC (ge L i))[j]? :=by
  intro j hj;rw [hb (i*3+j),List.getElem?_toArray,List.getElem?_append_left (by rw [itC_len];omega),itC_get L i j hj,of_ge hi];rfl
 exact ⟨get 0 (by omega),get 1 (by omega),get 2 (by omega)⟩
theorem Hp.new {w w':World}{p q mb cap nx n:Nat}{L:List It}{pl:Nat→Option Nat}(h:Hp w p q mb cap nx n L pl)(hb:Below w.heap.size w w'):Hp w' p q mb cap nx n L pl:=by
 obtain ⟨X,hX,hl⟩:=h.row;exact ⟨Bl.blk hb h.hd,⟨X,Bl.blk hb hX,hl⟩,h.cp,h.mp.below hb (Nat.le_refl _)⟩
theorem func_nil (w:World):(binOp .eql 215 (.func (.func 109) #[] #[]) .nilFunc).run Tryz.prog w = .ok (.bool false) w:=by kernel_rfl
theorem hnone_any (p q mb cap nx n:Nat)(L:List It)(pl:Nat→Option Nat)(w:World)(h:Hp w p q mb cap nx n L pl):Calls Tryz.prog 211 #[.pointer (some ⟨p,0,none⟩)] w fun e w'=>e = .returned (.bool false)∧w'=w:=by
 obtain ⟨c0,f0,_⟩:=cells4 h.hd;have hq:=func_nil;clear h;go_enter Tryz.func211,Tryz.ntmps211;go_wp2_with fail;go_ret;exact ⟨rfl,rfl⟩
def ltB (a b:It):Bool:=decide (lt a b)
theorem ahead_any (p q mb cap nx n i j:Nat)(L:List It)(pl:Nat→Option Nat)(w:World)(h:Hp w p q mb cap nx n L pl)(hi:i<L.length)(hj:j<L.length):Calls Tryz.prog 223 #[.pointer (some ⟨p,0,none⟩),.int .i64 i,.int .i64 j] w fun e w'=>e = .returned (.bool (ltB (ge L i) (ge L j)))∧Below w.heap.size w w':=by
 have H:=hid h;obtain ⟨c0,f0,c1,f1,_⟩:=cells4 h.hd;obtain ⟨a0,a1,a2⟩:=h.cells hi;obtain ⟨b0,b1,b2⟩:=h.cells hj;have hpl:=heap_lt h.hd;have hql:q<w.heap.size:=by obtain ⟨X,hX,_⟩:=h.row;exact heap_lt hX
 have hcp:=h.cp;have hiI:(i:Int)<(L.length:Int):=by omega
 have hjI:(j:Int)<(L.length:Int):=by omega
 unfold ltB;generalize ge L i=x at *;generalize ge L j=y at *;obtain ⟨xu,xi,xh⟩:=x;obtain ⟨yu,yi,yh⟩:=y;generalize L.length=k at *;have hr:∃r,decide (lt (xu,xi,xh) (yu,yi,yh))=r:=⟨_,rfl⟩;obtain ⟨r,hr⟩:=hr;rw [hr];have HR:=hid hr;clear h hr;go_enter Tryz.func223,Tryz.ntmps223;go_wp2_with fail;go_cut [7,8] (fun s7 s8 wr=> ∃A B:Nat,s7 = .pointer (some ⟨A,0,none⟩)∧s8 = .pointer (some ⟨B,0,none⟩)∧wr.heap[A]?=some (Obj.cells #[.int .i64 xu,.int .u32 xi,.int .i64 xh] 321 (0,0))∧wr.heap[B]?=some (Obj.cells #[.int .i64 yu,.int .u32 yi,.int .i64 yh] 321 (0,0))∧Below w.heap.size w wr)
 case first=>
  go_region
  ·go_wp2_with fail;go_meet
   have N:=new2 w (Obj.cells #[.int .i64 xu,.int .u32 xi,.int .i64 xh] 321) (Obj.cells #[.int .i64 yu,.int .u32 yi,.int .i64 yh] 321);exact ⟨_,_,rfl,rfl,N.1,N.2.1,N.2.2.2.drew⟩
  ·go_wp2_with fail;go_meet
   have N:=new2 w (Obj.cells #[.int .i64 yu,.int .u32 yi,.int .i64 yh] 321) (Obj.cells #[.int .i64 xu,.int .u32 xi,.int .i64 xh] 321);exact ⟨_,_,rfl,rfl,N.2.1,N.1,N.2.2.2.drew⟩
 case rest=>
  obtain ⟨A,B,rfl,rfl,hA,hB,hbw⟩:=hcut;have cfun:∀(a b c d:Nat) (W:World),Calls Tryz.prog 109 #[.agg #[.int .i64 a,.int .u32 b],.agg #[.int .i64 c,.int .u32 d]] W fun e w'=>e = .returned (.bool (dlt a b c d))∧Below W.heap.size W w':=less_any
  have c0c:=cell_regrown ((hbw.cell (p:=⟨p,0,none⟩) hpl).trans c0);have cl:=cfun xu xi yu yi;have cr:=cfun yu yi xu xi;have HA:=hid hA;have HB:=hid hB;have HBW:=hid hbw;have HC0:=hid ((hbw.cell (p:=⟨p,0,none⟩) hpl).trans c0);obtain ⟨x0,_,x1,_,x2,_⟩:=cells3 hA;obtain ⟨y0,_,y1,_,y2,_⟩:=cells3 hB;have x0c:=cell_regrown x0;have x1c:=cell_regrown x1;have y0c:=cell_regrown y0;have y1c:=cell_regrown y1;have HCR:=hid cr;clear cfun cr c0 f0 a0 a1 a2 b0 b1 b2 c1 f1 x0 x1 x2 y0 y1 y2 hA hB hbw;cases hd:dlt xu xi yu yi with
  | true=>
   have h9:xu<yu∨xu=yu∧xi<yi:=of_decide_eq_true hd;have HRES:=hid (show r=true from HR.out.symm.trans (decide_eq_true (show xu<yu∨xu=yu∧(xi<yi∨xi=yi∧xh<yh) by omega)));clear h9;rw [hd] at cl;have cH:∀d os,Calls Tryz.prog 109 #[.agg #[.int .i64 xu,.int .u32 xi],.agg #[.int .i64 yu,.int .u32 yi]] (Go.Sort.grow (redrawn wc d) os) fun e w''=>e = .returned (.bool true)∧ ∃p:Regrown,w''=Go.Sort.grow (redrawn wc p.d) p.os:=fun d os=>Calls.regrown_of (cl _)
   clear hd cl;go_wp2_with fail;refine wp_region_quiet_below (by kernel_rfl) (by kernel_rfl) ?_;repeat (go_big_quiet_step (exact cH _ _))
   refine wpQuiet_nil ?_;intro w9 hw9;obtain ⟨⟨dq,osq⟩,hw9⟩:=hw9;have HB9:=hid (show Below wc.heap.size wc w9 by rw [hw9];exact below_regrown wc dq osq);clear hw9 cH c0c x0c x1c y0c y1c;go_wp2_with fail;go_ret;exact ⟨by rw [HRES.out];rfl,HBW.out.trans (HB9.out.mono HBW.out.size)⟩
  | false=>
   have h9:¬(xu<yu∨xu=yu∧xi<yi):=of_decide_eq_false hd;have H9:=hid h9;rw [hd] at cl;have cH:∀d os,Calls Tryz.prog 109 #[.agg #[.int .i64 xu,.int .u32 xi],.agg #[.int .i64 yu,.int .u32 yi]] (Go.Sort.grow (redrawn wc d) os) fun e w''=>e = .returned (.bool false)∧ ∃p:Regrown,w''=Go.Sort.grow (redrawn wc p.d) p.os:=fun d os=>Calls.regrown_of (cl _)
   clear hd cl h9;go_wp2_with fail;refine wp_region_quiet_below (by kernel_rfl) (by kernel_rfl) ?_;repeat (go_big_quiet_step (exact cH _ _))
   refine wpQuiet_nil ?_;intro w9 hw9;obtain ⟨⟨dq,osq⟩,hw9⟩:=hw9;have hb9:Below wc.heap.size wc w9:=by rw [hw9];exact below_regrown wc dq osq
   have hpc:p<wc.heap.size:=Nat.lt_of_lt_of_le hpl HBW.out.size;have c0d:=cell_regrown ((hb9.cell (p:=⟨p,0,none⟩) hpc).trans HC0.out);obtain ⟨x0,_,x1,_,x2,_⟩:=cells3 (Bl.blk hb9 HA.out);obtain ⟨y0,_,y1,_,y2,_⟩:=cells3 (Bl.blk hb9 HB.out);have x0d:=cell_regrown x0;have x1d:=cell_regrown x1;have x2d:=cell_regrown x2;have y0d:=cell_regrown y0;have y1d:=cell_regrown y1;have y2d:=cell_regrown y2;have HB9:=hid hb9;clear hw9 cH c0c x0c x1c y0c y1c hb9 x0 x1 x2 y0 y1 y2;have cr:=HCR.out;cases hd:dlt yu yi xu xi with
   | true=>
    have h9:yu<xu∨yu=xu∧yi<xi:=of_decide_eq_true hd;have HRES:=hid (show r=false from HR.out.symm.trans (decide_eq_false (show ¬(xu<yu∨xu=yu∧(xi<yi∨xi=yi∧xh<yh)) by omega)));rw [hd] at cr;have cH:∀d os,Calls Tryz.prog 109 #[.agg #[.int .i64 yu,.int .u32 yi],.agg #[.int .i64 xu,.int .u32 xi]] (Go.Sort.grow (redrawn w9 d) os) fun e w''=>e = .returned (.bool true)∧ ∃p:Regrown,w''=Go.Sort.grow (redrawn w9 p.d) p.os:=fun d os=>Calls.regrown_of (cr _)
    clear hd cr h9;go_wp2_with fail;refine wp_region_quiet_below (by kernel_rfl) (by kernel_rfl) ?_;repeat (go_big_quiet_step (exact cH _ _))
    refine wpQuiet_nil ?_;intro w8 hw8;obtain ⟨⟨dr,osr⟩,hw8⟩:=hw8;have HB8:=hid (show Below w9.heap.size w9 w8 by rw [hw8];exact below_regrown w9 dr osr);clear hw8 cH c0d x0d x1d x2d y0d y1d y2d;go_wp2_with fail;go_ret;exact ⟨by rw [HRES.out];rfl,(HBW.out.trans (HB9.out.mono HBW.out.size)).trans (HB8.out.mono (Nat.le_trans HBW.out.size HB9.out.size))⟩
   | false=>
    have h9:¬(yu<xu∨yu=xu∧yi<xi):=of_decide_eq_false hd;have HRES:Hid (r=decide (xh<yh)):=hid (HR.out.symm.trans (decide_eq_decide.2 (show (xu<yu∨xu=yu∧(xi<yi∨xi=yi∧xh<yh))↔xh<yh by have:=H9.out;omega)));rw [hd] at cr;have cH:∀d os,Calls Tryz.prog 109 #[.agg #[.int .i64 yu,.int .u32 yi],.agg #[.int .i64 xu,.int .u32 xi]] (Go.Sort.grow (redrawn w9 d) os) fun e w''=>e = .returned (.bool false)∧ ∃p:Regrown,w''=Go.Sort.grow (redrawn w9 p.d) p.os:=fun d os=>Calls.regrown_of (cr _)
    clear hd cr h9;go_wp2_with fail;refine wp_region_quiet_below (by kernel_rfl) (by kernel_rfl) ?_;repeat (go_big_quiet_step (exact cH _ _))
    refine wpQuiet_nil ?_;intro w8 hw8;obtain ⟨⟨dr,osr⟩,hw8⟩:=hw8;have HB8:=hid (show Below w9.heap.size w9 w8 by rw [hw8];exact below_regrown w9 dr osr);clear hw8 cH c0d x0d x1d x2d y0d y1d y2d;go_wp2_with fail;go_ret;exact ⟨by rw [HRES.out];rfl,(HBW.out.trans (HB9.out.mono HBW.out.size)).trans (HB8.out.mono (Nat.le_trans HBW.out.size HB9.out.size))⟩
end
section
open Go.RowKit
theorem plF_upd (pl:Nat→Option Nat)(h i:Nat):∀k,plF (HeapPlain.upd pl h i) k=upd (plF pl) (h:Int) (.int .i64 i) k:=by
 intro k;unfold plF HeapPlain.upd upd;dsimp only;by_cases e:k=(h:Int)
 ·subst e;simp
 ·rw [if_neg e];by_cases hk:0≤k
  ·rw [if_pos hk,if_pos hk,if_neg (by omega)]
  ·rw [if_neg hk,if_neg hk]
theorem plF_del (pl:Nat→Option Nat)(h:Nat):∀k,plF (HeapPlain.del pl h) k=ers (plF pl) (h:Int) k:=by
 intro k;unfold plF HeapPlain.del ers;dsimp only;by_cases e:k=(h:Int)
 ·subst e;simp
 ·rw [if_neg e];by_cases hk:0≤k
  ·rw [if_pos hk,if_pos hk,if_neg (by omega)]
  ·rw [if_neg hk,if_neg hk]
theorem itC_set:∀(L:List HeapPlain.It) (i:Nat) (x:HeapPlain.It),i<L.length→((L.set i x).flatMap itC)=(((L.flatMap itC).set (i*3) (.int .i64 x.1)).set (i*3+1) (.int .u32 x.2.1)).set (i*3+2) (.int .i64 x.2.2)
 | [],i,x,h=>by simp at h
 | s::L,0,x,h=>by
  simp only [List.set_cons_zero,List.flatMap_cons,Nat.zero_mul,Nat.zero_add];simp [itC]
 | s::L,i+1,x,h=>by
  simp only [List.set_cons_succ,List.flatMap_cons];have hs:(itC s).length = 3:=rfl;rw [itC_set L i x (by simpa using h)];rw [List.set_append,if_neg (by rw [hs];omega),List.set_append,if_neg (by rw [hs];omega),List.set_append,if_neg (by rw [hs];omega),hs];rw [show (i+1)*3-3=i*3 by omega,show (i+1)*3+1-3=i*3+1 by omega,show (i+1)*3+2-3=i*3+2 by omega]
theorem Hp.put {w:World}{p q mb cap nx n:Nat}{L:List HeapPlain.It}{pl:Nat→Option Nat}(h:Hp w p q mb cap nx n L pl){i:Nat}(hi:i<L.length)(x:HeapPlain.It):Hp (((w.setCell ⟨q,i*3,none⟩ (.int .i64 x.1)).setCell ⟨q,i*3+1,none⟩ (.int .u32 x.2.1)).setCell ⟨q,i*3+2,none⟩ (.int .i64 x.2.2)) p q mb cap nx n (L.set i x) pl:=by
 obtain ⟨X,hX,hl⟩:=h.row;have h1:=heap_setCell_same w q (i*3) _ 321 (.int .i64 x.1) hX;have h2:=heap_setCell_same _ q (i*3+1) _ 321 (.int .u32 x.2.1) h1;have h3:=heap_setCell_same _ q (i*3+2) _ 321 (.int .i64 x.2.2) h2;have hpq:p≠q:=ty_ne h.hd hX (by decide);have hl3:=itC_len L;obtain ⟨es,c,hmb⟩:=h.mp.isMap;have hmq:mb≠q:=fun e=>by rw [e,hX] at hmb;cases hmb
 refine ⟨?_,⟨X,?_,?_⟩,by rw [List.length_set];exact h.cp,((h.mp.set (p:=⟨q,_,none⟩) hmq _).set (p:=⟨q,_,none⟩) hmq _).set (p:=⟨q,_,none⟩) hmq _⟩
 ·rw [heap_setCell_ne _ _ _ hpq,heap_setCell_ne _ _ _ hpq,heap_setCell_ne _ _ _ hpq,List.length_set];exact h.hd
 ·rw [h3,itC_set L i x hi];simp only [List.setIfInBounds_toArray];rw [List.set_append,if_pos (by omega),List.set_append,if_pos (by rw [List.length_set];omega),List.set_append,if_pos (by rw [List.length_set,List.length_set];omega)]
 ·rw [itC_set L i x hi];simp at hl ⊢;exact hl
theorem Hp.drew {w:World}{p q mb cap nx n:Nat}{L:List HeapPlain.It}{pl:Nat→Option Nat}(h:Hp w p q mb cap nx n L pl):Hp w.drew p q mb cap nx n L pl:=h.new (Below.refl _ _).drew
theorem Hp.told {w:World}{p q mb cap nx n:Nat}{L:List HeapPlain.It}{pl:Nat→Option Nat}(h:Hp w p q mb cap nx n L pl)(hn:n<1000000000){a i:Nat}(ha:a<1000000000000):
 ∃w',(Instr.mapUpdate 257 (.map (some mb)) (.int .i64 a) (.int .i64 i)).run Tryz.prog w = .ok () w'∧Hp w' p q mb cap nx (n+1) L (HeapPlain.upd pl a i)∧Kp (· = mb) w w':=by
 obtain ⟨w',h1,h2,h3⟩:=h.mp.update Tryz.underlying3 Tryz.underlying257 (by unfold maxLen;omega) (i:=(a:Int)) (by simp [Lit.wf,IntKind.min,IntKind.max,IntKind.bits,IntKind.signed];omega) (.int .i64 i);have hk:=turned_kp h3;obtain ⟨X,hX,hl⟩:=h.row;obtain ⟨es,c,hmb⟩:=h.mp.isMap;have hmq:mb≠q:=fun e=>by rw [e,hX] at hmb;cases hmb
 have hmp:mb≠p:=fun e=>by have h9:=h.hd;rw [←e,hmb] at h9;cases h9
 exact ⟨w',h1,⟨hk.blk h.hd (fun e=>hmp e.symm),⟨X,hk.blk hX (fun e=>hmq e.symm),hl⟩,h.cp,h2.congr (fun k _=>(plF_upd pl a i k).symm)⟩,hk⟩
end
end Go.Proofs.YtdjiopacieadpaaGreatDoor
