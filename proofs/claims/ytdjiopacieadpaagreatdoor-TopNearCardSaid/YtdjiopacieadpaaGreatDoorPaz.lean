/- TopNear: part Paz: Each Pw Reg RegR. -/
import Derived.Test.YtdjiopacieadpaaGreatDoorPay
set_option linter.unusedVariables false
set_option linter.unusedSimpArgs false
set_option maxRecDepth 8000
set_option maxHeartbeats 8000000
namespace Go.Proofs.YtdjiopacieadpaaGreatDoor
section
open Go.RowKit
def piece (z pos en:Nat):Nat:=min z (pos % z+en-pos)-pos % z
theorem piece_pos {z pos en:Nat}(hz:0<z)(h:pos<en):0<piece z pos en∧pos+piece z pos en≤en∧piece z pos en+pos % z≤z:=by
 have:=Nat.mod_lt pos hz;unfold piece;omega
theorem each_any (r f z at0 n g:Nat)(b1 b2:Nat)(w:World)(I:Nat→World→Prop)(hz:64≤z∧z≤4096)(hf:f≤1000)(hat:at0≤1000000)(hn:n≤1000000)(hg:g=150∨g=126)(hI:∀pos w',I pos w'→w'.cell? ⟨r,3,none⟩=some (.int .i64 z)∧w'.cell? ⟨r,1,none⟩=some (.int .i64 f))(hstep:∀pos w',I pos w'→at0≤pos→pos<at0+n→ ∀(i a b:Nat),i=f+pos / z→a=pos % z→b=a+piece z pos (at0+n)→Calls Tryz.prog g #[.int .i64 i,.int .i64 a,.int .i64 b,.pointer (some ⟨b1,0,none⟩),.pointer (some ⟨b2,0,none⟩)] w' fun e w''=>e = .returned (.int .i64 0)∧I (pos+piece z pos (at0+n)) w'')(h0:I at0 w):
 Calls Tryz.prog 125 #[.pointer (some ⟨r,0,none⟩),.int .i64 at0,.int .i64 n,.func (.func g) #[] #[.pointer (some ⟨b1,0,none⟩),.pointer (some ⟨b2,0,none⟩)]] w fun e w'=>e = .returned (.int .i64 0)∧I (at0+n) w':=by
 have HS:=hid hstep;have HI:=hid hI;have H0:=hid h0;clear hstep hI h0;go_enter Tryz.func125,Tryz.ntmps125;go_wp2_with fail;go_loopw [1] (fun i wi=> ∃(pos:Nat) (K:Int),pos≤at0+n∧at0≤pos∧K=(pos:Int)∧i = .int .i64 K∧I pos wi) (fun i _=>at0+n-(intOf i).toNat)
 case atStart=>exact ⟨at0,(at0:Int),by omega,by omega,rfl,rfl,H0.out⟩
 case round=>
  obtain ⟨pos,K,hp,hp0,hK,rfl,hIw⟩:=hrel;obtain ⟨c3,c1⟩:=HI.out pos wr hIw;have HIW:=hid hIw;clear hIw;by_cases hlt:pos<at0+n
  ·have hKlt:K<(at0:Int)+(n:Int):=by omega
   have hK2:K≤2000000:=by omega
   have hK0:0≤K:=by omega
   have hz1:0<z:=by omega
   obtain ⟨g1,g2,g3⟩:=piece_pos (pos:=pos) hz1 hlt;have hml:=Nat.mod_lt pos hz1;have hdl:pos / z≤pos:=Nat.div_le_self _ _;have hst:=HS.out pos wr HIW.out hp0 hlt _ _ _ rfl rfl rfl;have hpc:piece z pos (at0+n)=min z (pos % z+(at0+n)-pos)-pos % z:=rfl;obtain ⟨Q,hQ⟩:∃Q,pos / z=Q:=⟨_,rfl⟩;obtain ⟨R,hR⟩:∃R,pos % z=R:=⟨_,rfl⟩;obtain ⟨M,hM⟩:∃M,piece z pos (at0+n)=M:=⟨_,rfl⟩;have hq:(pos:Int) / (z:Int)=(Q:Int):=by rw [←hQ];rfl
   have hr:(pos:Int) % (z:Int)=(R:Int):=by rw [←hR];rfl
   rw [hQ,hR,hM] at hst;rw [hR] at g3 hml hpc;rw [hM] at g1 g2 g3 hpc;rw [hQ] at hdl;have HST:=hid hst;have hQb:Q≤2000000:=by omega
   have hMin:(if (R:Int)+((at0:Int)+(n:Int))-(pos:Int)<(z:Int) then (R:Int)+((at0:Int)+(n:Int))-(pos:Int) else (z:Int))=((R+M:Nat):Int):=by split<;>omega
   have HMIN:=hid hMin;have HG1:=hid g1;have HG2:=hid g2;have hRM:R+M≤4096:=by omega
   have HM:=hid hM;clear hst hpc hQ hR hM hMin g1 g2 g3 hdl;rcases hg with rfl | rfl
   all_goals
    go_wp2_with (refine wpList_min2 rfl _ _ rfl (z:Int) ((R:Int)+((at0:Int)+(n:Int))-(pos:Int)) ((R+M:Nat):Int) rfl rfl HMIN.out ?_);refine HST.out.mono ?_;rintro o w2 ⟨rfl,hi2⟩;have HI2:=hid hi2;have HG1':=HG1.out;have HG2':=HG2.out;clear hi2;go_wp2_with fail;go_roundw;case rel=>exact ⟨pos+M,(pos:Int)+(M:Int),by omega,by omega,by simp,by congr 1;omega,HI2.out⟩
    case measure=>simp [intOf];omega
  ·have hKlt:¬K<(at0:Int)+(n:Int):=by omega
   have hpe:pos=at0+n:=by omega
   subst hpe;go_wp2_with fail;go_ret;exact ⟨rfl,HIW.out⟩
end
section
open Go.RowKit FlatPlain
theorem foldl_set_mem:∀(r:List (Nat×List Nat)) (d:List (List Nat)) (x:List Nat),x∈r.foldl (fun l e=>l.set e.1 e.2) d→x∈d∨ ∃e∈r,x=e.2
 | [],d,x,h=>Or.inl h
 | e::r,d,x,h=>by
  rcases foldl_set_mem r _ x h with h | ⟨e',h1,h2⟩
  ·rcases List.mem_or_eq_of_mem_set h with h | h
   ·exact Or.inl h
   ·exact Or.inr ⟨e,List.mem_cons_self ..,h⟩
  ·exact Or.inr ⟨e',List.mem_cons_of_mem _ h1,h2⟩
theorem Dk.all {w:World}{d z:Nat}{s:Dst}{F:Nat→Prop}(h:Dk w d z s F):∀x∈cur s,x.length=z∧Bs x:=by
 obtain ⟨secs,dv,rv,m,ents,h⟩:=h;intro x hx;unfold cur at hx;rcases foldl_set_mem _ _ x hx with hx | ⟨e,he,hx⟩
 ·obtain ⟨i,hi⟩:=List.getElem?_of_mem hx;have hl:i<secs.length:=by rw [h.hlen];exact (List.getElem?_eq_some_iff.1 hi).1
  exact (h.hsec i _ x (List.getElem?_eq_getElem hl) hi).2
 ·rw [h.hrow] at he;obtain ⟨e',he',e9⟩:=List.mem_map.1 he;subst e9 hx;have:=h.hent e' he';exact ⟨this.2.1,this.2.2.1⟩
theorem Dv.all {w:World}{p z:Nat}{s:Dst}{F:Nat→Prop}{c:Nat}(h:Dv w p z s F c):∀x∈cur s,x.length=z∧Bs x:=by obtain ⟨d,_,h2⟩:=h.dk;exact h2.all
structure Pw (w:World)(p z n:Nat)(D:List Nat)(F:Nat→Prop)(c q:Nat):Prop where
 st:∃s,Dv w p z s F c∧s.dur.length=n∧(cur s).flatten = D∧s.row.length≤q
 n96:n≤96
theorem Pw.hz {w:World}{p z n:Nat}{D:List Nat}{F:Nat→Prop}{c q:Nat}(h:Pw w p z n D F c q):64≤z∧z≤4096:=by obtain ⟨s,h1,_⟩:=h.st;exact h1.hz
theorem Pw.own {w:World}{p z n:Nat}{D:List Nat}{F:Nat→Prop}{c q:Nat}(h:Pw w p z n D F c q):F p:=by obtain ⟨s,h1,_⟩:=h.st;exact h1.own
theorem Pw.flt {w:World}{p z n:Nat}{D:List Nat}{F:Nat→Prop}{c q:Nat}(h:Pw w p z n D F c q):∀b,F b→b<w.heap.size:=by obtain ⟨s,h1,_⟩:=h.st;exact h1.flt
theorem Pw.len {w:World}{p z n:Nat}{D:List Nat}{F:Nat→Prop}{c q:Nat}(h:Pw w p z n D F c q):D.length=n*z:=by
 obtain ⟨s,h1,h2,h3,_⟩:=h.st;rw [←h3,flat_len _ (fun x hx=>(h1.all x hx).1),cur_len,h2]
theorem Pw.bs {w:World}{p z n:Nat}{D:List Nat}{F:Nat→Prop}{c q:Nat}(h:Pw w p z n D F c q):Bs D:=by
 obtain ⟨s,h1,h2,h3,_⟩:=h.st;intro b hb;rw [←h3] at hb;obtain ⟨x,hx,hbx⟩:=List.mem_flatten.1 hb;exact (h1.all x hx).2 b hbx
theorem Pw.stay {w w':World}{p z n:Nat}{D:List Nat}{F:Nat→Prop}{c q:Nat}(h:Pw w p z n D F c q){G:Nat→Prop}(hk:Kp G w w')(hG:∀b,F b→ ¬G b):Pw w' p z n D F c q:=by
 obtain ⟨s,h1,h2⟩:=h.st;exact ⟨⟨s,h1.stay hk hG,h2⟩,h.n96⟩
theorem Pw.new {w w':World}{p z n:Nat}{D:List Nat}{F:Nat→Prop}{c q:Nat}(h:Pw w p z n D F c q)(hb:Below w.heap.size w w'):Pw w' p z n D F c q:=h.stay (G:=nob) (Kp.of_new hb) (fun _ _ h=>h)
theorem pwread_any (p z n:Nat)(D:List Nat)(F:Nat→Prop)(c q i:Nat)(w:World)(h:Pw w p z n D F c q)(hc:c<1000000000)(hi:i<n):
 Calls Tryz.prog 127 #[.pointer (some ⟨p,0,none⟩),.int .i64 i] w fun e w'=> ∃v',e = .returned (.tuple #[v',.int .i64 0])∧w'.ownsRow w.heap.size 5 1 v' z (Lb (cut D (i*z) z))∧Pw w' p z n D F (c+1) q∧Kp (· = p) w w':=by
 obtain ⟨s,h1,h2,h3,h4⟩:=h.st;refine (dvread_any p z s F c i w h1 hc (by omega) (by rw [h2];exact h.n96)).mono ?_;rintro e w' ⟨v',l,rfl,r1,r2,r3,r4,r5,r6⟩;refine ⟨v',rfl,?_,⟨⟨s,r5,h2,h3,h4⟩,h.n96⟩,r6⟩;rw [←h3,flat_cut (cur s) i l (fun x hx=>(h1.all x hx).1) r1];exact r4
theorem pwwrite_any (p z n:Nat)(D:List Nat)(F:Nat→Prop)(c q i:Nat)(v:Value)(l:List Nat)(w:World)(h:Pw w p z n D F c q)(hc:c<1000000000)(hi:i<n)(hq:q<100000)(hv:Sl w v (Lb l))(hvF:∀b,v.ownBlock=some b→ ¬F b)(hl:l.length=z)(hb:Bs l):
 Calls Tryz.prog 129 #[.pointer (some ⟨p,0,none⟩),.int .i64 i,v] w fun e w'=>e = .returned (.int .i64 0)∧ ∃F',Step F F' w w'∧Pw w' p z n (patch D (i*z) l) F' (c+1) (q+1):=by
 obtain ⟨s,h1,h2,h3,h4⟩:=h.st;refine (dvwrite_any p z s F c i v l w h1 hc (by omega) (by rw [h2];exact h.n96) (by omega) hv hvF hl hb).mono ?_;rintro e w' ⟨rfl,F',hs,hd⟩;refine ⟨rfl,F',hs,⟨⟨_,hd,h2,?_,by simp;omega⟩,h.n96⟩⟩;have e1:cur {dur:=s.dur,row:=s.row++[(i,l)]}=(cur s).set i l:=by unfold cur;rw [List.foldl_append];rfl
 rw [e1,←h3];exact flat_set (cur s) i l (fun x hx=>(h1.all x hx).1) (by rw [cur_len];omega) hl
theorem pwsync_any (p z n:Nat)(D:List Nat)(F:Nat→Prop)(c q:Nat)(w:World)(h:Pw w p z n D F c q)(hc:c<1000000000)(hq:q<100000):
 Calls Tryz.prog 130 #[.pointer (some ⟨p,0,none⟩)] w fun e w'=>e = .returned (.int .i64 0)∧Kp F w w'∧Pw w' p z n D F (c+1) 0:=by
 obtain ⟨s,h1,h2,h3,h4⟩:=h.st;refine (dvsync_any p z s F c w h1 hc (by omega)).mono ?_;rintro e w' ⟨rfl,hk,hd⟩;exact ⟨rfl,hk,⟨⟨_,hd,by rw [cur_len];exact h2,h3,Nat.le_refl _⟩,h.n96⟩⟩
theorem pwrestart_any (p z n:Nat)(D:List Nat)(F:Nat→Prop)(c:Nat)(w:World)(h:Pw w p z n D F c 0):
 Calls Tryz.prog 9 #[.pointer (some ⟨p,0,none⟩),.slice none 0 0] w fun e w'=>e = .returned (.int .i64 0)∧Kp F w w'∧Pw w' p z n D F 0 0:=by
 obtain ⟨s,h1,h2,h3,h4⟩:=h.st;refine (dvrestart_any p z s F c w h1 (List.eq_nil_of_length_eq_zero (by omega))).mono ?_;rintro e w' ⟨rfl,hk,hd⟩;exact ⟨rfl,hk,⟨⟨_,hd,h2,h3,h4⟩,h.n96⟩⟩
theorem pwcount_any (p z n:Nat)(D:List Nat)(F:Nat→Prop)(c q:Nat)(w:World)(h:Pw w p z n D F c q):
 Calls Tryz.prog 10 #[.pointer (some ⟨p,0,none⟩)] w fun e w'=>e = .returned (.int .i64 c)∧w=w':=by
 obtain ⟨s,h1,_⟩:=h.st;exact dvcount_any p z s F c w h1
theorem pwsectors_any (p z n:Nat)(D:List Nat)(F:Nat→Prop)(c q:Nat)(w:World)(h:Pw w p z n D F c q):
 Calls Tryz.prog 100 #[.pointer (some ⟨p,0,none⟩)] w fun e w'=>e = .returned (.int .i64 n)∧w=w':=by
 obtain ⟨s,h1,h2,_⟩:=h.st;rw [←h2];exact dvsectors_any p z s F c w h1
theorem pwsize_any (p z n:Nat)(D:List Nat)(F:Nat→Prop)(c q:Nat)(w:World)(h:Pw w p z n D F c q):
 Calls Tryz.prog 101 #[.pointer (some ⟨p,0,none⟩)] w fun e w'=>e = .returned (.int .i64 z)∧w=w':=by
 obtain ⟨s,h1,_⟩:=h.st;exact dvsize_any p z s F c w h1
def Steps (z at0 en pos j:Nat):Prop:=(pos=at0∧j=0)∨(pos % z=0∧j+at0 / z≤pos / z)∨(pos=en∧j+at0 / z≤pos / z+1)
theorem steps_next {z at0 en pos j:Nat}(hz:0<z)(h:Steps z at0 en pos j)(h0:at0≤pos)(h1:pos<en):Steps z at0 en (pos+piece z pos en) (j+1):=by
 obtain ⟨g1,g2,g3⟩:=piece_pos hz h1;have hm:=Nat.mod_lt pos hz;have hd:=Nat.div_add_mod pos z;by_cases he:pos+piece z pos en=en
 ·refine Or.inr (Or.inr ⟨he,?_⟩);rw [he];have hle:pos / z≤en / z:=Nat.div_le_div_right (by omega);rcases h with ⟨e1,e2⟩ | ⟨e1,e2⟩ | ⟨e1,e2⟩
  ·subst e1;omega
  ·omega
  ·omega
 ·have hp:pos+piece z pos en=z*(pos / z+1):=by
   unfold piece at *;rw [Nat.mul_add];omega
  refine Or.inr (Or.inl ⟨by rw [hp];exact Nat.mul_mod_right _ _,?_⟩);rw [hp,Nat.mul_div_cancel_left _ hz];rcases h with ⟨e1,e2⟩ | ⟨e1,e2⟩ | ⟨e1,e2⟩
  ·subst e1;omega
  ·omega
  ·omega
theorem steps_end {z at0 m j:Nat}(hz:0<z)(h:Steps z at0 (at0+m) (at0+m) j):j≤m / z+2:=by
 have h2:(at0+m) / z≤at0 / z+m / z+1:=by
  have a:=Nat.div_add_mod at0 z;have b:=Nat.div_add_mod m z;have c:=Nat.mod_lt at0 hz;have d:=Nat.mod_lt m hz;have e:at0+m<z*(at0 / z+m / z+2):=by
   rw [Nat.mul_add,Nat.mul_add];omega
  have:=(Nat.div_lt_iff_lt_mul hz).2 (by rw [Nat.mul_comm];exact e);omega
 revert h h2
 unfold Steps;generalize (at0+m) / z=A;generalize at0 / z=B;generalize m / z=C;intro h h2;rcases h with ⟨e1,e2⟩ | ⟨e1,e2⟩ | ⟨e1,e2⟩<;>omega
def Rg (w:World)(r p z f k:Nat):Prop:=w.heap[r]?=some (Obj.cells #[.pointer (some ⟨p,0,none⟩),.int .i64 f,.int .i64 k,.int .i64 z] 235 (0,0))
theorem Rg.kp {w w':World}{r p z f k:Nat}{F:Nat→Prop}(h:Rg w r p z f k)(hk:Kp F w w')(hF:¬F r):Rg w' r p z f k:=hk.blk h hF
theorem Rg.new {w w':World}{r p z f k:Nat}(h:Rg w r p z f k)(hb:Below w.heap.size w w'):Rg w' r p z f k:=Bl.blk hb h
theorem below_drew {B:Nat}{a w:World}(h:Below B a w):Below B a w.drew:=h.trans ⟨rfl,rfl,rfl,Nat.le_refl _,fun _ _=>rfl⟩
theorem mul_fact {k z m:Nat}(hm:k*z=m)(hb:m<1000000000):IntKind.i64.wrap ((k:Int)*(z:Int))=(m:Int):=by
 have:(k:Int)*(z:Int)=((k*z:Nat):Int):=by simp
 rw [this,hm,IntKind.wrap_i64];omega
theorem rmade_any (r p z f k:Nat)(w:World)(h:Rg w r p z f k):Calls Tryz.prog 123 #[.pointer (some ⟨r,0,none⟩)] w fun e w'=>e = .returned (.bool true)∧w=w':=by
 obtain ⟨c0,_,c1,_,c2,_,c3,_⟩:=cells4 h;clear h;go_enter Tryz.func123,Tryz.ntmps123;go_wp2;go_ret;exact ⟨rfl,rfl⟩
theorem rbytes1_any (r p z f k m:Nat)(w:World)(h:Rg w r p z f k)(hm:k*z=m)(hb:m<1000000000):Calls Tryz.prog 131 #[.pointer (some ⟨r,0,none⟩)] w fun e w'=> ∃q,e = .returned (.int .i64 m)∧w'=w.drewN q:=by
 obtain ⟨c0,_,c1,_,c2,_,c3,_⟩:=cells4 h;have hw:=mul_fact hm hb;clear h;go_enter Tryz.func131,Tryz.ntmps131;go_wp2;go_quiet (fail)
 go_wp2;go_ret;exact ⟨_,rfl,rfl⟩
theorem rbytes_any (r p z f k m:Nat)(w:World)(h:Rg w r p z f k)(hm:k*z=m)(hb:m<1000000000):Calls Tryz.prog 72 #[.pointer (some ⟨r,0,none⟩)] w fun e w'=> ∃q,e = .returned (.int .i64 m)∧w'=w.drewN q:=by
 have H:=hid h;have HM:=hid hm;have HB:=hid hb;clear h hm hb;go_enter Tryz.func72,Tryz.ntmps72;go_wp2_with fail;refine (rmade_any r p z f k _ H.out).mono ?_;rintro e w' ⟨rfl,rfl⟩;go_wp2_with fail;refine (rbytes1_any r p z f k m _ H.out HM.out HB.out).mono ?_;rintro e w' ⟨q,rfl,rfl⟩;go_wp2_with fail;go_ret;exact ⟨_,rfl,rfl⟩
theorem rsize_any (r p z f k:Nat)(w:World)(h:Rg w r p z f k):Calls Tryz.prog 69 #[.pointer (some ⟨r,0,none⟩)] w fun e w'=>e = .returned (.int .i64 z)∧w=w':=by
 have H:=hid h;obtain ⟨c0,_,c1,_,c2,_,c3,_⟩:=cells4 h;clear h;go_enter Tryz.func69,Tryz.ntmps69;go_wp2_with fail;refine (rmade_any r p z f k _ H.out).mono ?_;rintro e w' ⟨rfl,rfl⟩;go_wp2_with fail;go_ret;exact ⟨rfl,rfl⟩
theorem holds_any (r p z f k m at0 n:Nat)(w:World)(h:Rg w r p z f k)(hm:k*z=m)(hb:m<1000000000)(hin:at0+n≤m):Calls Tryz.prog 124 #[.pointer (some ⟨r,0,none⟩),.int .i64 at0,.int .i64 n] w fun e w'=> ∃q,e = .returned (.bool true)∧w'=w.drewN q:=by
 have H:=hid h;have HM:=hid hm;have HB:=hid hb;have h1:(at0:Int)≤(m:Int):=by omega
 have h2:(n:Int)≤(m:Int)-(at0:Int):=by omega
 have h3:IntKind.i64.wrap ((m:Int)-(at0:Int))=(m:Int)-(at0:Int):=by rw [IntKind.wrap_i64];omega
 have d1:decide ((at0:Int)≤(m:Int))=true:=by simpa using h1
 have d2:decide ((n:Int)≤(m:Int)-(at0:Int))=true:=by simpa using h2
 clear h hm hb;go_enter Tryz.func124,Tryz.ntmps124;go_wp2_with fail;refine (rbytes1_any r p z f k m _ H.out HM.out HB.out).mono ?_;rintro e w' ⟨q,rfl,rfl⟩;go_wp2_with fail;refine (rbytes1_any r p z f k m _ (show Rg (w.drewN q) r p z f k from H.out) HM.out HB.out).mono ?_;rintro e w' ⟨q2,rfl,rfl⟩;go_wp2_with fail;go_ret;exact ⟨q+q2,rfl,rfl⟩
theorem rsync_any (r p z f k n:Nat)(D:List Nat)(F:Nat→Prop)(c q:Nat)(w:World)(h:Rg w r p z f k)(hp:Pw w p z n D F c q)(hc:c<1000000000)(hq:q<100000):
 Calls Tryz.prog 71 #[.pointer (some ⟨r,0,none⟩)] w fun e w'=>e = .returned (.int .i64 0)∧Kp F w w'∧Pw w' p z n D F (c+1) 0:=by
 have H:=hid h;have HP:=hid hp;have HC:=hid hc;have HQ:=hid hq;obtain ⟨c0,_,c1,_,c2,_,c3,_⟩:=cells4 h;clear h hp hc hq;go_enter Tryz.func71,Tryz.ntmps71;go_wp2_with fail;refine (rmade_any r p z f k _ H.out).mono ?_;rintro e w' ⟨rfl,rfl⟩;go_wp2_with fail;refine (pwsync_any p z n D F c q _ HP.out HC.out HQ.out).mono ?_;rintro e w' ⟨rfl,hk,hd⟩;have HK:=hid hk;have HD:=hid hd;clear hk hd;go_wp2_with fail;go_ret;exact ⟨rfl,HK.out,HD.out⟩
theorem rnew_any (p z n f k:Nat)(D:List Nat)(F:Nat→Prop)(c q:Nat)(w:World)(hp:Pw w p z n D F c q)(hk:1≤k)(hf:f+k≤n):
 Calls Tryz.prog 102 #[.pointer (some ⟨p,0,none⟩),.agg #[.int .i64 f,.int .i64 k]] w fun e w'=> ∃r,e = .returned (.tuple #[.pointer (some ⟨r,0,none⟩),.int .i64 0])∧Rg w' r p z f k∧w.heap.size≤r∧Below w.heap.size w w':=by
 have HP:=hid hp;have hn:=hp.n96;have N:=new1 w (Obj.cells #[.int .i64 f,.int .i64 k] 54);have HN:=hid N;have HP1:=hid (hp.new N.2.2);have g1:¬((f:Int)<0):=by omega
 have g2:¬((k:Int)<1):=by omega
 have g3:¬((f:Int)>(n:Int)):=by omega
 have g4:¬((k:Int)>(n:Int)-(f:Int)):=by omega
 have gn:((n:Int) == 0)=false:=by simp;omega
 have HG:=hid (And.intro g1 (And.intro g2 (And.intro g3 g4)));have HGN:=hid gn;obtain ⟨c0,_⟩:=cells2 N.1;obtain ⟨_,_,c1,_⟩:=cells2 N.1;clear N hp gn g1 g2 g3 g4;go_enter Tryz.func102,Tryz.ntmps102;go_wp2_with fail;refine (pwsectors_any p z n D F c q _ HP1.out).mono ?_;rintro e w' ⟨rfl,rfl⟩;have gn:=HGN.out;go_wp2_with fail;obtain ⟨g1,g2,g3,g4⟩:=HG.out;have b1:decide ((f:Int)<0)=false:=by simp
 have b2:decide ((k:Int)<1)=false:=by simp;omega
 have b3:decide ((n:Int)<(f:Int))=false:=by simp;omega
 have b3':decide (n<f)=false:=by simp;omega
 have b4:decide ((n:Int)-(f:Int)<(k:Int))=false:=by simp;omega
 go_quiet ((go_at_call 100;exact Calls.quiet_of_same ((pwsectors_any p z n D F c q _ (HP1.out.new (below_drewN (Below.refl _ _) _))).mono (fun _ _ h=>⟨h.1,h.2.symm⟩))))
 go_wp2_with fail;have hN2:Below w.heap.size w ((w.alloc (Obj.cells #[.int .i64 f,.int .i64 k] 54)).drewN nq):=below_drewN HN.out.2.2 nq;have hB2:((w.alloc (Obj.cells #[.int .i64 f,.int .i64 k] 54)).drewN nq).heap[w.heap.size]?=some (Obj.cells #[.int .i64 f,.int .i64 k] 54):=HN.out.1;clear b1 b2 b3 b3' b4 g1 g2 g3 g4 gn;revert hN2 hB2
 generalize (w.alloc (Obj.cells #[.int .i64 f,.int .i64 k] 54)).drewN nq=W;intro hN2 hB2;have HW:=hid hN2;have HPW:=hid (HP.out.new (hN2.trans (show Below w.heap.size W W.drew from ⟨rfl,rfl,rfl,Nat.le_refl _,fun _ _=>rfl⟩)));obtain ⟨d0,_,d1,_⟩:=cells2 hB2;clear hN2 hB2;go_region_held_law (fun w'=>w'.cell? ⟨w.heap.size,0,none⟩=some (.int .i64 f)∧w'.cell? ⟨w.heap.size,1,none⟩=some (.int .i64 k)) (first | assumption | go_keep) ((go_at_call 101;refine (pwsize_any p z n D F c q _ HPW.out).mono ?_;rintro e w' ⟨rfl,rfl⟩))
 all_goals
  go_wp2_with fail;go_ret2;have N2:=new1 W (Obj.cells #[.pointer (some ⟨p,0,none⟩),.int .i64 f,.int .i64 k,.int .i64 z] 235);exact ⟨W.heap.size,rfl,N2.1,HW.out.size,below_drew (HW.out.trans (N2.2.2.mono HW.out.size))⟩
structure RdI (w0:World)(r p z f k n:Nat)(D:List Nat)(F:Nat→Prop)(c q at0 m pos:Nat)(w:World):Prop where
 ex:∃v j,Pw w p z n D F (c+j) q∧Steps z at0 (at0+m) pos j∧w.heap[w0.heap.size+1]?=some (Obj.cells #[v] 34 (0,0))∧w.ownsRow w0.heap.size 5 1 v (pos-at0) (Lb (cut D (f*z+at0) (pos-at0)))
 bx:w.heap[w0.heap.size]?=some (Obj.cells #[.pointer (some ⟨r,0,none⟩)] 78 (0,0))
 rg:Rg w r p z f k
 kp:Kp F w0 w
theorem read1_any (w0:World)(r p z f k n:Nat)(D:List Nat)(F:Nat→Prop)(c q at0 m pos:Nat)(w:World)(h:RdI w0 r p z f k n D F c q at0 m pos w)(hc:c+10000000<1000000000)(hfk:f+k≤n)(hin:at0+m≤k*z)(hFl:∀b,F b→b<w0.heap.size)(hr:¬F r)(hrl:r<w0.heap.size)(hp0:at0≤pos)(hp:pos<at0+m)(i a b:Nat)(hi:i=f+pos / z)(ha:a=pos % z)(hb:b=a+piece z pos (at0+m)):
 Calls Tryz.prog 150 #[.int .i64 i,.int .i64 a,.int .i64 b,.pointer (some ⟨w0.heap.size,0,none⟩),.pointer (some ⟨w0.heap.size+1,0,none⟩)] w fun e w''=>e = .returned (.int .i64 0)∧RdI w0 r p z f k n D F c q at0 m (pos+piece z pos (at0+m)) w'':=by
 obtain ⟨⟨v,j,h1,h2,h3,h4⟩,h5,h6,h7⟩:=h;have hz:=h1.hz;have hz0:0<z:=by omega
 obtain ⟨g1,g2,g3⟩:=piece_pos (pos:=pos) hz0 hp;have hpk:pos / z<k:=(Nat.div_lt_iff_lt_mul hz0).2 (by omega);have hn96:=h1.n96;have hkz:k*z≤96*4096:=Nat.mul_le_mul (by omega) hz.2;have hj:j≤10000:=by
  have hx:=Nat.div_le_self pos z;rcases h2 with ⟨_,e⟩ | ⟨_,e⟩ | ⟨_,e⟩
  ·omega
  ·have:=Nat.zero_le (at0 / z);revert e;generalize at0 / z=A;generalize hpz:pos / z=B;intro e;omega
  ·have:=Nat.zero_le (at0 / z);revert e;generalize at0 / z=A;generalize hpz:pos / z=B;intro e;omega
 have HP:=hid h1;have H2:=hid h2;have H3:=hid h3;have H4:=hid h4;have H5:=hid h5;have H6:=hid h6;have H7:=hid h7;have c1:w.cell? ⟨w0.heap.size,0,none⟩=some (.pointer (some ⟨r,0,none⟩)):=(blk h5).1 0;obtain ⟨c2,_⟩:=cells4 h6;have hiI:Hid (i<n):=hid (by omega);have hcj:Hid (c+j<1000000000):=hid (by omega);have HA:=hid (And.intro hi (And.intro ha hb));have HG:=hid (And.intro g1 (And.intro g2 g3));have HZ:=hid hz;have HKZ:Hid (at0+m≤96*4096):=hid (by omega);clear h1 h2 h3 h4 h5 h6 h7 hi ha hb g1 g2 g3 hz hj hkz hpk hin hfk hc hz0;go_enter Tryz.func150,Tryz.ntmps150;go_wp2_with fail;refine (pwread_any p z n D F (c+j) q i _ HP.out hcj.out hiI.out).mono ?_;rintro e w1 ⟨v1,rfl,ho,hd,hk⟩;have hz:=HZ.out;obtain ⟨gp1,gp2,gp3⟩:=HG.out;obtain ⟨ei,ea,eb⟩:=HA.out;obtain ⟨gb,cb,rfl,hzc,_⟩:=own_some ho (by omega);have hab:a≤b:=by omega
 have hbc:b≤cb:=by omega
 have hbz:b≤z:=by omega
 have hpp:p<w0.heap.size:=hFl p HP.out.own;have hk0:Kp F w w1:=hk.mono (fun x hx=>by rw [hx];exact HP.out.own);have hne1:¬(w0.heap.size+1=p):=by omega
 have hne0:¬(w0.heap.size=p):=by omega
 have hb1:=hk.blk H3.out hne1;have HB1:=hid hb1;have hb0:=hk.blk H5.out hne0;have HB0:=hid hb0;have hvo:∀x,v.ownBlock=some x→ ¬(x=p):=fun x hx e=>by
  have:=(H4.out.lt x hx).1;omega
 have HV1:=hid (own_kp H4.out hk hvo);have hvs:w0.heap.size≤w.heap.size:=H7.out.size;obtain ⟨oa,oc,rfl,_,_⟩:=own_form H4.out;have hsl:=Sl_cut (Sl_of_own ho) hab hbz;rw [Nat.zero_add] at hsl;have HNW:=hid (Sl_news hsl);have HO:=hid ho;have HD:=hid hd;have HK:=hid hk;have HK0:=hid hk0;have c3:w1.cell? ⟨w0.heap.size+1,0,none⟩=some (.slice oa (pos-at0) oc):=(blk hb1).1 0;have c4:w1.frozen? ⟨w0.heap.size+1,0,none⟩=false:=(blk hb1).2.1 0;have c5:w1.cell? ⟨w0.heap.size,0,none⟩=some (.pointer (some ⟨r,0,none⟩)):=(blk hb0).1 0;have habI:(a:Int)≤(b:Int):=by omega
 have hbcI:(b:Int)≤(cb:Int):=by omega
 obtain ⟨i0,hi0,hz0,hz1,hz2⟩:=info_parts info5;have HI0:=hid hi0;have HZ2:=hid hz2;have HWS:Hid (w0.heap.size≤w1.heap.size):=hid (by have:=hk.size;omega);have HNL:Hid (((Lb (cut D (i*z) z)).take b).drop a=Lb (cut D (f*z+pos) (b-a))):=hid (by
  have e1:i*z+a=f*z+pos:=by
   rw [ei,ea,Nat.add_mul];have:=Nat.div_add_mod pos z;rw [Nat.mul_comm (pos / z) z];omega
  rw [Lb_take,Lb_drop,←e1,←cut_cut (B:=D) (p:=i*z) (n:=z) (q:=a) (m:=b-a) (by omega)];congr 1
  show _=((cut D (i*z) z).drop a).take (b-a)
  rw [List.drop_take])
 have hLL:(Lb (cut D (f*z+pos) (b-a))).length = b-a:=by
  have:=HNL.out;have e2:(cut D (i*z) z).length = z:=by
   have:=HO.out.1;rw [Lb_len] at this;omega
  rw [←HNL.out,List.length_drop,List.length_take,Lb_len,e2];omega
 have HLL:=hid hLL;have hpb:pos-at0≤10000000:=by have:=HP.out.n96;have:=HKZ.out;omega
 have hba:0<b-a:=by omega
 have hba2:b-a≤4096:=by omega
 have hca:¬cb=a:=by omega
 have HVT:Hid (∀x C t,w1.heap[x]?=some (Obj.cells C t (0,0))→5≠t→(Value.slice oa (pos-at0) oc).ownBlock ≠some x):=hid (fun x C t hx ht e=>by obtain ⟨C',hC'⟩:=own_ty HV1.out e;exact ty_ne hC' hx ht rfl);rw [HNL.out] at HNW;clear ho hd hk hk0 hb1 hb0 hvo hsl hi0 hz2 hLL c1 c2 ei ea eb gp1 gp2 gp3 hne1 hne0;go_wp2_with fail;refine wp_region_held_drew (S:=fun w'=>w'.cell? ⟨w0.heap.size,0,none⟩=some (.pointer (some ⟨r,0,none⟩))∧True) (by kernel_rfl) (by (try dsimp only);first | assumption | go_keep) (fun hHeld=>?_);refine tkm 4 [(1,24),(2,25),(3,26),(4,27)] (by kernel_rfl) (fun _ _ _ _ _ h=>h) (by assumption) ?_;iterate 4
  refine ysC (v:=?_) rfl rfl (fun w9 hS9=>?_) ?_;rotate_left
  ·try dsimp only at hS9
   go_split_ands;go_simp;try with_reducible rfl
  simp only [Act.put,List.setIfInBounds_toArray,List.set_cons_zero,List.set_cons_succ]
 refine ysN ?_;refine rd1 0 (by kernel_rfl) rfl (fun K9 hK9=>?_);go_simp;refine hK9.out _ _ (by (try dsimp only);first | assumption | go_keep) (fun hHeld=>?_);clear hK9 K9;refine rd1 5 (by kernel_rfl) rfl (fun K9 hK9=>?_);(first | (refine step_append_lies _ (by rfl) _ _ 34 (by rfl) w0.heap.size 5 i0 (.int .u8 0) 1 1 Tryz.underlying34 HI0.out hz0 hz1 HZ2.out (by rfl) (by decide) (.slice oa (pos-at0) oc) (pos-at0) (Lb (cut D (f*z+at0) (pos-at0))) (by rfl) HV1.out ⟨gb,a,none⟩ (b-a) (cb-a) (Lb (cut D (f*z+pos) (b-a))) (by rfl) (by rw [HLL.out];omega) HNW.out (Lb_one _) hba (by unfold maxLen;omega) (by omega) HWS.out w1.heap.size rfl ?_;intro g cap w4 hown hgrow hat hlt4;have hq0:=(hgrow.block w0.heap.size (heap_lt HB0.out) (fun e=>HVT.out _ _ _ HB0.out (by decide) e.symm)).trans HB0.out;have hq1:=(hgrow.block (w0.heap.size+1) (heap_lt HB1.out) (fun e=>HVT.out _ _ _ HB1.out (by decide) e.symm)).trans HB1.out;have k4:w4.cell? ⟨w0.heap.size,0,none⟩=some (.pointer (some ⟨r,0,none⟩))∧True:=⟨(blk hq0).1 0,trivial⟩;have k5:w4.cell? ⟨w0.heap.size+1,0,none⟩=some (.slice oa (pos-at0) oc):=(blk hq1).1 0;have k6:w4.frozen? ⟨w0.heap.size+1,0,none⟩=false:=(blk hq1).2.1 0;have k7:(w4.setCell ⟨w0.heap.size+1,0,none⟩ (.slice (some ⟨g,0,none⟩) (pos-at0+(b-a)) cap)).cell? ⟨w0.heap.size,0,none⟩=some (.pointer (some ⟨r,0,none⟩))∧True:=⟨(World.cell?_setCell_other _ _ _ _ (by simp)).trans k4.1,trivial⟩;have HQ0:=hid hq0;have HQ1:=hid hq1;have HOw:=hid hown;have HGr:=hid hgrow;have HAt:=hid hat;clear hown hgrow hat hq0 hq1))
 refine hK9.out _ _ (by (try dsimp only);first | assumption | go_keep) (fun hHeld=>?_);clear hK9 K9;refine rd1 6 (by kernel_rfl) rfl (fun K9 hK9=>?_);go_simp;refine hK9.out _ _ (by (try dsimp only);first | assumption | go_keep) (fun hHeld=>?_);clear hK9 K9;refine wpAnyH_done (by kernel_rfl) ?_ _;all_goals
  go_wp2;go_ret;obtain ⟨ei,ea,eb⟩:=HA.out;have hk9:Kp (fun x=>w0.heap.size≤x) w1 (w4.setCell ⟨w0.heap.size+1,0,none⟩ (.slice (some ⟨g,0,none⟩) (pos-at0+(b-a)) cap)):=
   ((Kp.refl (fun x=>w0.heap.size≤x) w1).drew.grown HGr.out (fun x hx=>Or.inl (HV1.out.lt x hx).1)).setCell (p:=⟨w0.heap.size+1,0,none⟩) (by show w0.heap.size≤w0.heap.size+1;omega) _
  have hFg:∀x,F x→ ¬(w0.heap.size≤x):=fun x hx h9=>by have:=hFl x hx;omega
  have hgB:g≠w0.heap.size+1:=by
   rcases HAt.out with e | e
   ·intro e2;subst e2;exact HVT.out _ _ _ HB1.out (by decide) e
   ·have:=heap_lt HB1.out;omega
  have hpm:pos+piece z pos (at0+m)-at0=(pos-at0)+(b-a):=by omega
  have hkf:Kp F w0 (w4.setCell ⟨w0.heap.size+1,0,none⟩ (.slice (some ⟨g,0,none⟩) (pos-at0+(b-a)) cap)):=(H7.out.trans HK0.out).then hk9 (fun x hx=>Or.inr hx);refine ⟨rfl,⟨_,j+1,?_,steps_next (by have:=hz.1;omega) H2.out hp0 hp,heap_setCell_same _ _ 0 _ 34 _ HQ1.out,?_⟩,?_,?_,hkf⟩
  ·exact HD.out.stay hk9 hFg
  ·rw [hpm,cut_add,Lb_app,show f*z+at0+(pos-at0)=f*z+pos by omega];exact own_other HOw.out (fun e=>by injection e with e;exact hgB e) _
  ·rw [heap_setCell_ne _ _ _ (by show w0.heap.size≠w0.heap.size+1;omega)];exact HQ0.out
  ·exact (H6.out.kp HK0.out hr).kp hk9 (fun h9=>by have:w0.heap.size≤r:=h9;omega)
theorem rread_any (r p z f k n:Nat)(D:List Nat)(F:Nat→Prop)(c q at0 m:Nat)(w:World)(h:Rg w r p z f k)(hp:Pw w p z n D F c q)(hr:¬F r)(hc:c+10000000<1000000000)(hfk:f+k≤n)(hin:at0+m≤k*z):
 Calls Tryz.prog 105 #[.pointer (some ⟨r,0,none⟩),.int .i64 at0,.int .i64 m] w fun e w'=> ∃v' j,e = .returned (.tuple #[v',.int .i64 0])∧w'.ownsRow w.heap.size 5 1 v' m (Lb (cut D (f*z+at0) m))∧Pw w' p z n D F (c+j) q∧j≤m / z+2∧Kp F w w':=by
 have hmf:∀(fn:Fn) (first cap:Array Value) (w:World),(Instr.makeFunc fn first cap).run Tryz.prog w = .ok (.func fn first cap) w:=fun _ _ _ _=>rfl
 have hz:=hp.hz;have hn96:=hp.n96;have hkz:k*z≤96*4096:=Nat.mul_le_mul (by omega) hz.2;obtain ⟨K,hK⟩:∃K,k*z=K:=⟨_,rfl⟩;have N:=new2 w (Obj.cells #[.pointer (some ⟨r,0,none⟩)] 78) (Obj.cells #[.slice none 0 0] 34);have N1:=new1 w (Obj.cells #[.pointer (some ⟨r,0,none⟩)] 78);have HN:=hid N;have HR:=hid h;have HR1:=hid (h.new N1.2.2);have HP:=hid hp;have HZ:=hid hz;have HI:=hid hin;have HK:=hid hK;have HKB:Hid (K<1000000000):=hid (by omega);have HB:Hid (at0≤1000000∧m≤1000000∧f≤1000):=hid (by omega);have HC:=hid hc;have HFK:=hid hfk;clear h hp hz hn96 hkz hin hK N N1 hc hfk;go_enter Tryz.func105,Tryz.ntmps105;go_wp2_with fail;refine (rmade_any r p z f k _ HR1.out).mono ?_;rintro e w' ⟨rfl,rfl⟩;go_wp2_with fail;refine (holds_any r p z f k K at0 m _ HR1.out HK.out HKB.out (by rw [←HK.out];exact HI.out)).mono ?_;rintro e w' ⟨q1,rfl,rfl⟩;go_wp2_with fail;refine (each_any r f z at0 m 150 w.heap.size (w.heap.size+1) _ (fun pos w'=>RdI w r p z f k n D F c q at0 m pos w') HZ.out HB.out.2.2 HB.out.1 HB.out.2.1 (Or.inl rfl) ?_ ?_ ?_).mono ?_
 ·intro pos w' hI;obtain ⟨c0,_,c1,_,c2,_,c3,_⟩:=cells4 hI.rg;exact ⟨c3,c1⟩
 ·intro pos w' hI h0 h1 i a b hi ha hb;exact read1_any w r p z f k n D F c q at0 m pos w' hI HC.out HFK.out HI.out HP.out.flt hr (heap_lt HR.out) h0 h1 i a b hi ha hb
 ·have hb2:=below_drewN HN.out.2.2.2 q1;refine ⟨⟨.slice none 0 0,0,HP.out.new hb2,Or.inl ⟨rfl,rfl⟩,HN.out.2.1,?_⟩,HN.out.1,HR.out.new hb2,Kp.of_new hb2⟩;rw [Nat.sub_self,cut_zero];exact ⟨rfl,Or.inl ⟨rfl,rfl⟩⟩
 ·rintro e w2 ⟨rfl,hI⟩;obtain ⟨⟨v,j,h1,h2,h3,h4⟩,h5,h6,h7⟩:=hI;have c8:w2.cell? ⟨w.heap.size+1,0,none⟩=some v:=(blk h3).1 0;obtain ⟨oa,oc,rfl,_,_⟩:=own_form h4;have H1:=hid h1;have H2:=hid h2;have H4:=hid h4;have H7:=hid h7;clear h1 h2 h3 h4 h5 h6 h7;go_wp2_with fail;go_ret2;have e9:at0+m-at0=m:=by omega
  have h4:=H4.out;rw [e9] at h4;exact ⟨_,j,rfl,h4,H1.out,steps_end (by have:=HZ.out;omega) H2.out,H7.out⟩
end
end Go.Proofs.YtdjiopacieadpaaGreatDoor
