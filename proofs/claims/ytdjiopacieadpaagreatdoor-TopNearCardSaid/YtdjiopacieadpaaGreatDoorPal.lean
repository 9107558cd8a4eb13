/- TopNear: part Pal: BookPlain RulePlain Bits. -/
import Derived.Test.YtdjiopacieadpaaGreatDoorPae
set_option linter.unusedVariables false
set_option linter.unusedSimpArgs false
set_option maxRecDepth 8000
set_option maxHeartbeats 8000000
namespace BookPlain
section
abbrev Bo:=Nat×Nat×Nat
def z:Bo:=(0,0,0)
def M:Nat:=1099511627776
structure Bk where
 s:Nat
 c:Nat
 g:Nat
 clock:Nat
 next:Nat
 l:List Bo
def taken (l:List Bo):List Bo:=l.filter fun x=>x.1 != 0
def nT (l:List Bo):Nat:=(taken l).length
def Bf (i:Nat)(x:Bo):Prop:=x=z∨(1≤x.1∧x.1<4294967296∧x.2.1=i∧x.2.2≤M)
structure Fine (b:Bk):Prop where
 len:b.l.length=b.s
 hs:1≤b.s∧b.s≤24
 hc:1≤b.c∧b.c≤24
 hg:1≤b.g∧b.g≤64
 ok:∀(i:Nat) (x:Bo),b.l[i]?=some x→Bf i x
 one:∀(i k:Nat) (x y:Bo),b.l[i]?=some x→b.l[k]?=some y→x.1=y.1→x.1≠0→i=k
 few:nT b.l≤b.c
structure Sound (b:Bk):Prop extends Fine b where
 all:∀(i:Nat) (x:Bo),b.l[i]?=some x→x.1≠0→x.1<b.next∧(x.2.2=0∨b.clock<x.2.2)
 hn:1≤b.next∧b.next≤4294967295
 hk:b.clock≤M
theorem get_set {l:List Bo}{i p:Nat}{x:Bo}:(l.set i x)[p]?=if i=p then (if i<l.length then some x else none) else l[p]? :=by
 rw [List.getElem?_set]
theorem nT_cons (x:Bo)(l:List Bo):nT (x::l)=(if x.1=0 then 0 else 1)+nT l:=by
 unfold nT taken;rw [List.filter_cons];by_cases h:x.1=0
 ·simp [h]
 ·simp [h];omega
theorem nT_set:∀(l:List Bo) (i:Nat) (s x:Bo),l[i]?=some s→nT (l.set i x)+(if s.1=0 then 0 else 1)=nT l+(if x.1=0 then 0 else 1)
 | [],i,s,x,h=>by cases h
 | y::l,0,s,x,h=>by
  have e:y=s:=by simpa using h
  subst e;rw [List.set_cons_zero,nT_cons,nT_cons];omega
 | y::l,i+1,s,x,h=>by
  rw [List.set_cons_succ,nT_cons,nT_cons];have:=nT_set l i s x (by simpa using h);omega
theorem nT_replicate (n:Nat):nT (List.replicate n z)=0:=by
 unfold nT taken;rw [List.filter_eq_nil_iff.2 (by intro a ha;rw [List.eq_of_mem_replicate ha];simp [z])];rfl
theorem Fine.set {b:Bk}(h:Fine b){i:Nat}{x:Bo}(hi:i<b.s)(hx:Bf i x)(ho:∀(k:Nat) (y:Bo),k≠i→b.l[k]?=some y→y.1=x.1→x.1=0)(hf:nT (b.l.set i x)≤b.c)(q n:Nat):Fine {b with l:=b.l.set i x,clock:=q,next:=n}:=by
 refine ⟨by show (b.l.set i x).length = _;rw [List.length_set];exact h.len,h.hs,h.hc,h.hg,?_,?_,hf⟩
 ·intro k y hk;rw [get_set] at hk;split at hk
  ·rename_i e;subst e;rw [h.len,if_pos hi] at hk;injection hk with hk;subst hk;exact hx
  ·exact h.ok k y hk
 ·intro k m y v hk hm he hne;rw [get_set] at hk hm;split at hk
  ·rename_i e;subst e;rw [h.len,if_pos hi] at hk;injection hk with hk;subst hk;split at hm
   ·rename_i e;exact e
   ·rename_i e;exact absurd (ho m v (fun e9=>e e9.symm) hm he.symm) hne
  ·rename_i e1;split at hm
   ·rename_i e;subst e;rw [h.len,if_pos hi] at hm;injection hm with hm;subst hm;exact absurd (by rw [he];exact ho k y (fun e9=>e1 e9.symm) hk he) hne
   ·exact h.one k m y v hk hm he hne
theorem Sound.set {b:Bk}(h:Sound b){i:Nat}{x:Bo}(hi:i<b.s)(hx:Bf i x)(ho:∀(k:Nat) (y:Bo),k≠i→b.l[k]?=some y→y.1=x.1→x.1=0)(hf:nT (b.l.set i x)≤b.c)(n:Nat)(hn:b.next≤n)(hn2:n≤4294967295)(hx2:x.1≠0→x.1<n∧(x.2.2=0∨b.clock<x.2.2)):Sound {b with l:=b.l.set i x,next:=n}:=by
 refine ⟨h.toFine.set hi hx ho hf b.clock n,?_,?_,h.hk⟩
 ·intro k y hk hy;have hk':(b.l.set i x)[k]?=some y:=hk;rw [get_set] at hk';split at hk'
  ·rename_i e;subst e;rw [h.len,if_pos hi] at hk';injection hk' with hk';subst hk';exact hx2 hy
  ·have:=h.all k y hk' hy;exact ⟨by show y.1<n;omega,this.2⟩
 ·have:=h.hn;exact ⟨by show 1≤n;omega,hn2⟩
def get (b:Bk)(id:Nat):Option Bo:=if id=0 then none else b.l.find? fun x=>x.1 == id
theorem get_some {b:Bk}(h:Fine b){id:Nat}{x:Bo}(hg:get b id=some x):id≠0∧x.1=id∧b.l[x.2.1]?=some x∧x.2.1<b.s:=by
 unfold get at hg;split at hg
 ·cases hg
 ·rename_i h0;have h1:=List.find?_some hg;simp at h1;obtain ⟨i,hi⟩:=List.getElem?_of_mem (List.mem_of_find?_eq_some hg);rcases h.ok i x hi with e | ⟨_,_,e,_⟩
  ·rw [e] at h1;exact absurd h1.symm h0
  ·refine ⟨h0,h1,by rw [e];exact hi,?_⟩;rw [e,←h.len];exact (List.getElem?_eq_some_iff.1 hi).1
theorem get_none {b:Bk}{id:Nat}(hg:get b id=none)(h0:id≠0)(i:Nat)(x:Bo)(hi:b.l[i]?=some x):x.1≠id:=by
 unfold get at hg;rw [if_neg h0,List.find?_eq_none] at hg;have:=hg x (List.mem_of_getElem? hi);simpa using this
theorem get_of {b:Bk}(h:Fine b){i:Nat}{x:Bo}(hi:b.l[i]?=some x)(h0:x.1≠0):get b x.1=some x:=by
 cases hg:get b x.1 with
 | none=>exact absurd rfl (get_none hg h0 i x hi)
 | some y=>
  obtain ⟨_,e,hy,_⟩:=get_some h hg;have:=h.one i _ x y hi hy e.symm h0;rw [←this,hi] at hy;exact hy.symm▸rfl
def holdB (b:Bk)(seat til:Nat):Bk:={b with l:=b.l.set seat (b.next,seat,til),next:=b.next+1}
def putB (b:Bk)(x:Bo):Bk:={b with l:=b.l.set x.2.1 x}
def seatB (b:Bk)(x:Bo)(seat:Nat):Bk:={b with l:=(b.l.set x.2.1 z).set seat (x.1,seat,x.2.2)}
def dropB (b:Bk)(i:Nat):Bk:={b with l:=b.l.set i z}
def firmB (b:Bk)(x:Bo):Bk:={b with l:=b.l.set x.2.1 (x.1,x.2.1,0)}
def over (q:Nat)(x:Bo):Bool:=decide (0<x.2.2∧x.2.2≤q)
def tickB (b:Bk)(q:Nat):Bk:={b with l:=b.l.map (fun x=>if over q x then z else x),clock:=q}
theorem dropB_fine {b:Bk}(h:Fine b){i:Nat}{x:Bo}(hi:b.l[i]?=some x):Fine (dropB b i):=by
 have hs:i<b.s:=by rw [←h.len];exact (List.getElem?_eq_some_iff.1 hi).1
 refine h.set hs (Or.inl rfl) (fun _ _ _ _ _=>rfl) ?_ b.clock b.next;have:=nT_set b.l i x z hi;have hz:z.1=0:=rfl;rw [if_pos hz] at this;have:=h.few;omega
theorem dropB_sound {b:Bk}(h:Sound b){i:Nat}{x:Bo}(hi:b.l[i]?=some x):Sound (dropB b i):=by
 have hs:i<b.s:=by rw [←h.len];exact (List.getElem?_eq_some_iff.1 hi).1
 refine h.set hs (Or.inl rfl) (fun _ _ _ _ _=>rfl) ?_ b.next (Nat.le_refl _) h.hn.2 (fun h=>absurd rfl h);exact (dropB_fine h.toFine hi).few
theorem firmB_sound {b:Bk}(h:Sound b){id:Nat}{x:Bo}(hg:get b id=some x):Sound (firmB b x):=by
 obtain ⟨h0,h1,h2,h3⟩:=get_some h.toFine hg;have hx:x.1≠0:=by rw [h1];exact h0
 rcases h.ok _ x h2 with e | ⟨a1,a2,a3,a4⟩
 ·exact absurd (by rw [e];rfl) hx
 ·refine h.set (x:=(x.1,x.2.1,0)) h3 (Or.inr ⟨a1,a2,rfl,Nat.zero_le _⟩) (fun k y hk hy he=>absurd (h.one k _ y x hy h2 he (by rw [he];exact hx)) hk) ?_ b.next (Nat.le_refl _) h.hn.2 (fun _=>⟨(h.all _ x h2 hx).1,Or.inl rfl⟩);have:=nT_set b.l x.2.1 x (x.1,x.2.1,0) h2;have:=h.few;simp [hx] at *;omega
theorem putB_fine {b:Bk}(h:Fine b){x:Bo}(hs:x.2.1<b.s)(hx:Bf x.2.1 x)(hne:x.1≠0)(ho:get b x.1=none)(hc:nT b.l<b.c):Fine (putB b x):=by
 refine h.set hs hx (fun k y _ hy he=>absurd he (get_none ho hne k y hy)) ?_ b.clock b.next;have hl:x.2.1<b.l.length:=by rw [h.len];exact hs
 have:=nT_set b.l x.2.1 _ x (List.getElem?_eq_getElem hl);split at this<;>first | omega | (split at this<;>omega)
theorem holdB_sound {b:Bk}(h:Sound b){seat til:Nat}(hs:seat<b.s)(hq:b.clock<til)(hm:til≤M)(hc:nT b.l<b.c)(hn:b.next<4294967295):Sound (holdB b seat til):=by
 have h1:=h.hn;have ho:∀(k:Nat) (y:Bo),k≠seat→b.l[k]?=some y→y.1=b.next→b.next=0:=by
  intro k y _ hy he;by_cases hy0:y.1=0
  ·omega
  ·have:=(h.all k y hy hy0).1;omega
 refine h.set hs (Or.inr ⟨h1.1,by show b.next<4294967296;omega,rfl,hm⟩) ho ?_ (b.next+1) (by omega) (by omega) (fun _=>⟨by show b.next<b.next+1;omega,Or.inr hq⟩);have hl:seat<b.l.length:=by rw [h.len];exact hs
 have:=nT_set b.l seat _ (b.next,seat,til) (List.getElem?_eq_getElem hl);split at this<;>first | omega | (split at this<;>omega)
theorem seatB_fine {b:Bk}(h:Fine b){id:Nat}{x:Bo}(hg:get b id=some x){seat:Nat}(hs:seat<b.s):Fine (seatB b x seat):=by
 obtain ⟨h0,h1,h2,h3⟩:=get_some h hg;have hx:x.1≠0:=by rw [h1];exact h0
 have hd:=dropB_fine h h2;rcases h.ok _ x h2 with e | ⟨a1,a2,a3,a4⟩
 ·exact absurd (by rw [e];rfl) hx
 ·refine hd.set (b:=dropB b x.2.1) (i:=seat) (x:=(x.1,seat,x.2.2)) hs (Or.inr ⟨a1,a2,rfl,a4⟩) ?_ ?_ b.clock b.next
  ·intro k y hk hy he;have hy':(b.l.set x.2.1 z)[k]?=some y:=hy;rw [get_set] at hy';split at hy'
   ·rw [h.len,if_pos h3] at hy';injection hy' with hy';subst hy';exact he.symm
   ·rename_i e9;exact absurd (h.one k _ y x hy' h2 he (by rw [he];exact hx)).symm e9
  ·have e1:=nT_set b.l x.2.1 x z h2;have hl:seat<(dropB b x.2.1).l.length :=by show seat<(b.l.set x.2.1 z).length;rw [List.length_set,h.len];exact hs
   have e2:=nT_set (dropB b x.2.1).l seat _ (x.1,seat,x.2.2) (List.getElem?_eq_getElem hl);have e3:nT (dropB b x.2.1).l = nT (b.l.set x.2.1 z):=rfl;have:=h.few;have hz:z.1=0:=rfl;rw [if_pos hz,if_neg hx] at e1;rw [e3,if_neg hx] at e2;show nT _≤b.c
   first | omega | (split at e2<;>omega)
theorem seatB_sound {b:Bk}(h:Sound b){id:Nat}{x:Bo}(hg:get b id=some x){seat:Nat}(hs:seat<b.s):Sound (seatB b x seat):=by
 obtain ⟨h0,h1,h2,h3⟩:=get_some h.toFine hg;have hx:x.1≠0:=by rw [h1];exact h0
 refine ⟨seatB_fine h.toFine hg hs,?_,h.hn,h.hk⟩;intro k y hk hy;have hk':((b.l.set x.2.1 z).set seat (x.1,seat,x.2.2))[k]?=some y:=hk;rw [get_set] at hk';split at hk'
 ·rw [List.length_set,h.len,if_pos hs] at hk';injection hk' with hk';subst hk';exact h.all _ x h2 hx
 ·rw [get_set] at hk';split at hk'
  ·rw [h.len,if_pos h3] at hk';injection hk' with hk';subst hk';exact absurd rfl hy
  ·exact h.all k y hk' hy
theorem nT_map_le (q:Nat):∀(l:List Bo),nT (l.map fun x=>if over q x then z else x)≤nT l
 | []=>Nat.le_refl _
 | x::l=>by
  have:=nT_map_le q l;rw [List.map_cons,nT_cons,nT_cons];by_cases h:over q x
  ·rw [if_pos h];have hz:z.1=0:=rfl;rw [if_pos hz];split<;>omega
  ·rw [if_neg h];omega
theorem tickB_sound {b:Bk}(h:Sound b){q:Nat}(h1:b.clock≤q)(h2:q≤M):Sound (tickB b q):=by
 have key:∀(i:Nat) (x:Bo),(tickB b q).l[i]?=some x→x=z∨(b.l[i]?=some x∧over q x=false):=by
  intro i x hx;have hx':(b.l.map fun x=>if over q x then z else x)[i]?=some x:=hx;rw [List.getElem?_map] at hx';cases hl:b.l[i]? with
  | none=>rw [hl] at hx';cases hx'
  | some y=>
   rw [hl] at hx';simp only [Option.map_some,Option.some.injEq] at hx';by_cases ho:over q y
   ·rw [if_pos ho] at hx';exact Or.inl hx'.symm
   ·rw [if_neg ho] at hx';subst hx';exact Or.inr ⟨rfl,by simpa using ho⟩
 refine ⟨⟨?_,h.hs,h.hc,h.hg,?_,?_,Nat.le_trans (nT_map_le q b.l) h.few⟩,?_,h.hn,h2⟩
 ·show (b.l.map _).length = _;rw [List.length_map];exact h.len
 ·intro i x hx;rcases key i x hx with e | ⟨e,_⟩
  ·exact Or.inl e
  ·exact h.ok i x e
 ·intro i k x y hx hy he h0;rcases key i x hx with e | ⟨e,_⟩
  ·exact absurd (by rw [e];rfl) h0
  ·rcases key k y hy with e2 | ⟨e2,_⟩
   ·exact absurd (by rw [he,e2];rfl) h0
   ·exact h.one i k x y e e2 he h0
 ·intro i x hx h0;rcases key i x hx with e | ⟨e,ho⟩
  ·exact absurd (by rw [e];rfl) h0
  ·have:=h.all i x e h0;refine ⟨this.1,?_⟩;unfold over at ho;rw [decide_eq_false_iff_not] at ho;show x.2.2=0∨q<x.2.2
   omega
def ins (x:Bo):List Bo→List Bo
 | []=>[x]
 | y::l=>if x.1≤y.1 then x::y::l else y::ins x l
def listL:List Bo→List Bo
 | []=>[]
 | x::l=>if x.1=0 then listL l else ins x (listL l)
def listB (b:Bk):List Bo:=listL b.l
def Up:List Bo→Prop
 | []=>True
 | x::l=>(∀y∈l,x.1<y.1)∧Up l
theorem ins_mem (x y:Bo):∀l,y∈ins x l↔y=x∨y∈l
 | []=>by simp [ins]
 | v::l=>by
  unfold ins;split
  ·simp
  ·rw [List.mem_cons,ins_mem x y l,List.mem_cons];constructor
   ·rintro (h | h | h)
    ·exact Or.inr (Or.inl h)
    ·exact Or.inl h
    ·exact Or.inr (Or.inr h)
   ·rintro (h | h | h)
    ·exact Or.inr (Or.inl h)
    ·exact Or.inl h
    ·exact Or.inr (Or.inr h)
theorem ins_len (x:Bo):∀l,(ins x l).length = l.length+1
 | []=>rfl
 | v::l=>by
  unfold ins;split
  ·rfl
  ·rw [List.length_cons,ins_len x l,List.length_cons]
theorem ins_up (x:Bo):∀l,Up l→(∀y∈l,y.1≠x.1)→Up (ins x l)
 | [],_,_=>⟨fun y (h:y∈[])=>(List.not_mem_nil h).elim,trivial⟩
 | v::l,h,hn=>by
  unfold ins;have hv:=hn v (List.mem_cons_self ..);split
  ·rename_i hle;refine ⟨fun y hy=>?_,h⟩;rcases List.mem_cons.1 hy with e | e
   ·rw [e];omega
   ·have:=h.1 y e;omega
  ·refine ⟨fun y hy=>?_,ins_up x l h.2 (fun y hy=>hn y (List.mem_cons_of_mem _ hy))⟩;rcases (ins_mem x y l).1 hy with e | e
   ·rw [e];omega
   ·exact h.1 y e
theorem listL_mem (y:Bo):∀l,y∈listL l↔y∈l∧y.1≠0
 | []=>by simp [listL]
 | x::l=>by
  unfold listL;split
  ·rename_i h;rw [listL_mem y l,List.mem_cons];constructor
   ·rintro ⟨a,b⟩;exact ⟨Or.inr a,b⟩
   ·rintro ⟨a | a,b⟩
    ·rw [a] at b;exact absurd h b
    ·exact ⟨a,b⟩
  ·rename_i h;rw [ins_mem,listL_mem y l,List.mem_cons];constructor
   ·rintro (a | ⟨a,b⟩)
    ·exact ⟨Or.inl a,by rw [a];exact h⟩
    ·exact ⟨Or.inr a,b⟩
   ·rintro ⟨a | a,b⟩
    ·exact Or.inl a
    ·exact Or.inr ⟨a,b⟩
theorem listL_len:∀l,(listL l).length = nT l
 | []=>rfl
 | x::l=>by
  unfold listL;rw [nT_cons];split
  ·rw [listL_len l];omega
  ·rw [ins_len,listL_len l];omega
theorem listL_up:∀(l:List Bo),(∀(i k:Nat) (x y:Bo),l[i]?=some x→l[k]?=some y→x.1=y.1→x.1≠0→i=k)→Up (listL l)
 | [],_=>trivial
 | x::l,h=>by
  have hl:Up (listL l):=listL_up l (fun i k v y hi hk he h0=>by
   have:=h (i+1) (k+1) v y (by simpa using hi) (by simpa using hk) he h0;omega)
  unfold listL;split
  ·exact hl
  ·rename_i h0;refine ins_up x _ hl (fun y hy he=>?_);obtain ⟨hy,_⟩:=(listL_mem y l).1 hy;obtain ⟨k,hk⟩:=List.getElem?_of_mem hy;have:=h 0 (k+1) x y rfl (by simpa using hk) he.symm h0;omega
theorem up_unique:∀(a b:List Bo),Up a→Up b→(∀x,x∈a↔x∈b)→a=b
 | [],[],_,_,_=>rfl
 | [],y::b,_,_,h=>by have:=(h y).2 (List.mem_cons_self ..);cases this
 | x::a,[],_,_,h=>by have:=(h x).1 (List.mem_cons_self ..);cases this
 | x::a,y::b,ha,hb,h=>by
  have e:x=y:=by
   rcases List.mem_cons.1 ((h x).1 (List.mem_cons_self ..)) with e | e
   ·exact e
   ·rcases List.mem_cons.1 ((h y).2 (List.mem_cons_self ..)) with e2 | e2
    ·exact e2.symm
    ·have:=hb.1 x e;have:=ha.1 y e2;omega
  subst e;congr 1
  refine up_unique a b ha.2 hb.2 (fun v=>?_);constructor
  ·intro hv;rcases List.mem_cons.1 ((h v).1 (List.mem_cons_of_mem _ hv)) with e | e
   ·have:=ha.1 v hv;rw [e] at this;omega
   ·exact e
  ·intro hv;rcases List.mem_cons.1 ((h v).2 (List.mem_cons_of_mem _ hv)) with e | e
   ·have:=hb.1 v hv;rw [e] at this;omega
   ·exact e
theorem listB_unique {b:Bk}(h:Fine b){r:List Bo}(hu:Up r)(hm:∀x,x∈r↔x∈b.l∧x.1≠0):r=listB b:=
 up_unique _ _ hu (listL_up _ h.one) (fun x=>by rw [hm x];unfold listB;rw [listL_mem])
def lay (n:Nat)(r:List Bo):List Bo:=r.foldl (fun l x=>l.set x.2.1 x) (List.replicate n z)
theorem lay_len (n:Nat)(r:List Bo):(lay n r).length = n:=by
 unfold lay;have:∀(r l:List Bo),(r.foldl (fun l x=>l.set x.2.1 x) l).length = l.length:=by
  intro r;induction r with
  | nil=>intro l;rfl
  | cons x r ih=>intro l;rw [List.foldl_cons,ih,List.length_set]
 rw [this,List.length_replicate]
theorem lay_snoc (n:Nat)(r:List Bo)(x:Bo):lay n (r++[x])=(lay n r).set x.2.1 x:=by
 unfold lay;rw [List.foldl_append];rfl
theorem lay_get (n:Nat):∀(r:List Bo),(∀x∈r,x.2.1<n)→(∀x∈r,∀y∈r,x.2.1=y.2.1→x=y)→ ∀(i:Nat) (y:Bo),(lay n r)[i]?=some y↔(i<n∧((y∈r∧y.2.1=i)∨(y=z∧ ∀x∈r,x.2.1≠i))):=by
 intro r;rw [show r=r.reverse.reverse from by simp];generalize r.reverse=q;induction q with
 | nil=>
  intro _ _ i y;show (List.replicate n z)[i]?=some y↔_
  rw [List.getElem?_replicate];constructor
  ·intro h;split at h
   ·rename_i hi;injection h with h;exact ⟨hi,Or.inr ⟨h.symm,fun x hx=>by simp at hx⟩⟩
   ·cases h
  ·rintro ⟨hi,h | ⟨h,_⟩⟩
   ·simp at h
   ·rw [if_pos hi,h]
 | cons x q ih=>
  intro hs ho i y;rw [List.reverse_cons] at hs ho ⊢;rw [lay_snoc,get_set,lay_len];have hxn:=hs x (by simp);have ih':=ih (fun x hx=>hs x (by simp at hx ⊢;exact Or.inl hx)) (fun x hx y hy=>ho x (by simp at hx ⊢;exact Or.inl hx) y (by simp at hy ⊢;exact Or.inl hy));by_cases e:x.2.1=i
  ·rw [if_pos e,if_pos hxn];constructor
   ·intro h;injection h with h;subst h;exact ⟨by omega,Or.inl ⟨by simp,e⟩⟩
   ·rintro ⟨_,⟨h1,h2⟩ | ⟨_,h2⟩⟩
    ·rw [ho x (by simp) y h1 (by omega)]
    ·exact absurd e (h2 x (by simp))
  ·rw [if_neg e,ih'];constructor
   ·rintro ⟨a,⟨h1,h2⟩ | ⟨h1,h2⟩⟩
    ·exact ⟨a,Or.inl ⟨by simp at h1 ⊢;exact Or.inl h1,h2⟩⟩
    ·refine ⟨a,Or.inr ⟨h1,fun v hv=>?_⟩⟩;rcases List.mem_append.1 hv with hv | hv
     ·exact h2 v hv
     ·simp at hv;rw [hv];exact e
   ·rintro ⟨a,⟨h1,h2⟩ | ⟨h1,h2⟩⟩
    ·rcases List.mem_append.1 h1 with h1 | h1
     ·exact ⟨a,Or.inl ⟨h1,h2⟩⟩
     ·simp at h1;rw [h1] at h2;exact absurd h2 e
    ·exact ⟨a,Or.inr ⟨h1,fun v hv=>h2 v (by simp at hv ⊢;exact Or.inl hv)⟩⟩
theorem listB_seat {b:Bk}(h:Fine b){x:Bo}(hx:x∈listB b):b.l[x.2.1]?=some x∧x.2.1<b.s∧x.1≠0∧Bf x.2.1 x:=by
 obtain ⟨h1,h2⟩:=(listL_mem x b.l).1 hx;obtain ⟨i,hi⟩:=List.getElem?_of_mem h1;have hb:=h.ok i x hi;rcases hb with e | ⟨a1,a2,a3,a4⟩
 ·exact absurd (by rw [e];rfl) h2
 ·rw [a3];exact ⟨hi,by rw [←h.len];exact (List.getElem?_eq_some_iff.1 hi).1,h2,Or.inr ⟨a1,a2,a3,a4⟩⟩
theorem listB_same {b:Bk}(h:Fine b):∀x∈listB b,∀y∈listB b,x.2.1=y.2.1→x=y:=by
 intro x hx y hy he;have h1:=(listB_seat h hx).1;have h2:=(listB_seat h hy).1;rw [he,h2] at h1;injection h1 with h1;exact h1.symm
theorem lay_listB {b:Bk}(h:Fine b):lay b.s (listB b)=b.l:=by
 apply List.ext_getElem?;intro i;have key:=lay_get b.s (listB b) (fun x hx=>(listB_seat h hx).2.1) (listB_same h) i;by_cases hi:i<b.s
 ·have hi2:i<b.l.length:=by rw [h.len];exact hi
  rw [List.getElem?_eq_getElem hi2];rw [key];refine ⟨hi,?_⟩;have hx:=List.getElem?_eq_getElem hi2;generalize b.l[i]=x at hx;by_cases h0:x.1=0
  ·refine Or.inr ⟨?_,fun y hy he=>?_⟩
   ·rcases h.ok i x hx with e | ⟨a,_⟩
    ·exact e
    ·omega
   ·have:=(listB_seat h hy);rw [he,hx] at this;obtain ⟨h1,_,h2,_⟩:=this;injection h1 with h1;rw [h1] at h0;exact h2 h0
  ·refine Or.inl ⟨(listL_mem x b.l).2 ⟨List.mem_of_getElem? hx,h0⟩,?_⟩;rcases h.ok i x hx with e | ⟨_,_,a,_⟩
   ·exact absurd (by rw [e];rfl) h0
   ·exact a
 ·rw [List.getElem?_eq_none (by rw [lay_len];omega),List.getElem?_eq_none (by rw [h.len];omega)]
def part (b:Bk)(k:Nat):Bk:={b with l:=lay b.s ((listB b).take k)}
theorem part_all {b:Bk}(h:Fine b):part b (nT b.l)=b:=by
 have h1:(listB b).take (nT b.l)=listB b:=List.take_of_length_le (Nat.le_of_eq (listL_len b.l));unfold part;rw [h1,lay_listB h]
theorem part_get {b:Bk}(h:Fine b)(k i:Nat)(y:Bo):(part b k).l[i]?=some y↔(i<b.s∧((y∈(listB b).take k∧y.2.1=i)∨(y=z∧ ∀x∈(listB b).take k,x.2.1≠i))):=
 lay_get b.s _ (fun x hx=>(listB_seat h (List.mem_of_mem_take hx)).2.1) (fun x hx y hy=>listB_same h x (List.mem_of_mem_take hx) y (List.mem_of_mem_take hy)) i y
theorem part_next {b:Bk}{k:Nat}{x:Bo}(hx:(listB b)[k]?=some x):part b (k+1)=putB (part b k) x:=by
 have hk:=(List.getElem?_eq_some_iff.1 hx).1;have:(listB b).take (k+1)=(listB b).take k++[x]:=by
  rw [List.take_add_one,hx];rfl
 unfold part putB;rw [this,lay_snoc]
theorem up_at {l:List Bo}(h:Up l):∀(i k:Nat) (x y:Bo),i<k→l[i]?=some x→l[k]?=some y→x.1<y.1:=by
 induction l with
 | nil=>intro i k x y _ hi;cases hi
 | cons v l ih=>
  intro i k x y hik hi hk;obtain ⟨k',rfl⟩:∃k',k=k'+1:=⟨k-1,by omega⟩;have hk':l[k']?=some y:=by simpa using hk
  cases i with
  | zero=>
   have e:v=x:=by simpa using hi
   subst e;exact h.1 y (List.mem_of_getElem? hk')
  | succ i=>exact ih h.2 i k' x y (by omega) (by simpa using hi) hk'
theorem part_free {b:Bk}(h:Fine b){k:Nat}{x:Bo}(hx:(listB b)[k]?=some x):(part b k).l[x.2.1]?=some z∧get (part b k) x.1=none∧ ∀y∈(listB b).take k,y.1<x.1:=by
 have hup:Up (listB b):=listL_up _ h.one;have hlt:∀y∈(listB b).take k,y.1<x.1:=by
  intro y hy;obtain ⟨i,hi⟩:=List.getElem?_of_mem hy;have hik:i<k:=by
   have:=(List.getElem?_eq_some_iff.1 hi).1;rw [List.length_take] at this;omega
  rw [List.getElem?_take,if_pos hik] at hi;exact up_at hup i k y x hik hi hx
 have hxs:=listB_seat h (List.mem_of_getElem? hx);refine ⟨(part_get h k _ _).2 ⟨hxs.2.1,Or.inr ⟨rfl,fun y hy he=>?_⟩⟩,?_,hlt⟩
 ·have:=listB_same h y (List.mem_of_mem_take hy) x (List.mem_of_getElem? hx) he;have:=hlt y hy;rw [‹y=x›] at this;omega
 ·unfold get;rw [if_neg hxs.2.2.1,List.find?_eq_none];intro y hy;obtain ⟨i,hi⟩:=List.getElem?_of_mem hy;rcases (part_get h k i y).1 hi with ⟨_,⟨h1,_⟩ | ⟨h1,_⟩⟩
  ·have:=hlt y h1;simp;omega
  ·rw [h1];simp [z];exact fun e=>hxs.2.2.1 e.symm
theorem part_fine {b:Bk}(h:Fine b)(k:Nat):Fine (part b k)∧nT (part b k).l = min k (nT b.l):=by
 induction k with
 | zero=>
  have e:(part b 0).l = List.replicate b.s z:=rfl;refine ⟨⟨lay_len _ _,h.hs,h.hc,h.hg,?_,?_,?_⟩,?_⟩
  ·intro i x hx;rw [e,List.getElem?_replicate] at hx;split at hx
   ·injection hx with hx;exact Or.inl hx.symm
   ·cases hx
  ·intro i k x y hx _ _ h0;rw [e,List.getElem?_replicate] at hx;split at hx
   ·injection hx with hx;subst hx;exact absurd rfl h0
   ·cases hx
  ·rw [e,nT_replicate];exact Nat.zero_le _
  ·rw [e,nT_replicate];omega
 | succ k ih=>
  obtain ⟨i1,i2⟩:=ih;cases hx:(listB b)[k]? with
  | none=>
   have hk:(listB b).length ≤k:=List.getElem?_eq_none_iff.1 hx;have e:part b (k+1)=part b k:=by
    unfold part;rw [List.take_of_length_le hk,List.take_of_length_le (by omega)]
   have hl:(listB b).length = nT b.l:=listL_len _;rw [e];exact ⟨i1,by rw [i2];omega⟩
  | some x=>
   have hk:k<(listB b).length :=(List.getElem?_eq_some_iff.1 hx).1;have hl:(listB b).length = nT b.l:=listL_len _;obtain ⟨f1,f2,f3⟩:=part_free h hx;obtain ⟨s1,s2,s3,s4⟩:=listB_seat h (List.mem_of_getElem? hx);have hfew:=h.few;rw [part_next hx];refine ⟨putB_fine i1 s2 s4 s3 f2 (by rw [i2];show min k (nT b.l)<b.c;omega),?_⟩;have:=nT_set (part b k).l x.2.1 z x f1;rw [if_neg s3] at this;have hz:z.1=0:=rfl;rw [if_pos hz] at this;show nT ((part b k).l.set x.2.1 x)=_
   omega
def held (b:Bk)(seat:Nat):Bool:=((b.l[seat]?.getD z).1 != 0)
theorem held_iff {b:Bk}{seat:Nat}{x:Bo}(h:b.l[seat]?=some x):held b seat=true↔x.1≠0:=by
 unfold held;rw [h];simp
def applyN (b:Bk)(k i s u q:Nat):Bk×Nat:=
 if k=1 then
  if i≠b.next then (b,2)
  else if b.s≤s then (b,140)
  else if u≤b.clock then (b,173)
  else if held b s then (b,170)
  else if b.c≤nT b.l∨b.next=4294967295 then (b,6)
  else (holdB b s u,0)
 else if k=5 then (if q≤b.clock then (b,173) else (tickB b q,0))
 else match get b i with
  | none=>(b,171)
  | some x=>
   if k=2 then (firmB b x,0)
   else if k=3 then (dropB b x.2.1,0)
   else if b.s≤s then (b,140)
   else if s=x.2.1 then (b,0)
   else if held b s then (b,170)
   else (seatB b x s,0)
theorem applyN_sound {b:Bk}(h:Sound b)(k i s u q:Nat)(hu:u≤M)(hq:q≤M):Sound (applyN b k i s u q).1:=by
 unfold applyN;split
 ·split
  ·exact h
  split
  ·exact h
  split
  ·exact h
  split
  ·exact h
  split
  ·exact h
  ·have:=h.hn;exact holdB_sound h (by omega) (by omega) hu (by omega) (by omega)
 split
 ·split
  ·exact h
  ·exact tickB_sound h (by omega) hq
 cases hg:get b i with
 | none=>exact h
 | some x=>
  dsimp only;split
  ·exact firmB_sound h hg
  split
  ·exact dropB_sound h (get_some h.toFine hg).2.2.1
  split
  ·exact h
  split
  ·exact h
  split
  ·exact h
  ·exact seatB_sound h hg (by omega)
theorem applyN_shape (b:Bk)(k i s u q:Nat):(applyN b k i s u q).1.s = b.s∧(applyN b k i s u q).1.c = b.c∧(applyN b k i s u q).1.g = b.g:=by
 unfold applyN;repeat' first | exact ⟨rfl,rfl,rfl⟩ | split
structure Rq where
 k:Nat
 tag:Nat
 id:Nat
 seat:Nat
 ttl:Nat
structure Rp where
 tag:Nat
 k:Nat
 err:Nat
 id:Nat
 seat:Nat
 til:Nat
 cnt:Nat
def TTL:Nat:=1073741824
def ruleF (b:Bk)(q:Rq)(need room:Nat)(j:Nat):Nat:=
 if j=0 then (if b.s≤q.seat then 140 else 0)
 else if j=1 then (if q.ttl<1∨TTL<q.ttl then 2 else 0)
 else if j=2 then (if M<b.clock+q.ttl then 172 else 0)
 else if j=3 then (if (b.l[q.seat]?.getD z).1≠0∧(b.l[q.seat]?.getD z).1≠q.id then 170 else 0)
 else if j=4 then (if b.c≤nT b.l∨b.next=4294967295 then 6 else 0)
 else if j=5 then (if (get b q.id).isSome then 0 else 171)
 else if room<need then 220 else 0
def needF (k:Nat):Nat:=if k=1 then 37 else if k=4 then 29 else if k=7 then 31 else 27
def rulesF (k:Nat):List Nat:=if k=1 then [0,1,2,3,4,6] else if k=4 then [5,0,3,6] else if k=7 then [1,2,6] else [5,6]
def refuse (b:Bk)(q:Rq)(room:Nat):List Nat→Nat
 | []=>0
 | j::l=>if ruleF b q (needF q.k) room j=0 then refuse b q room l else ruleF b q (needF q.k) room j
def refusal (b:Bk)(q:Rq)(room:Nat):Nat:=refuse b q room (rulesF q.k)
theorem refuse_zero {b:Bk}{q:Rq}{room:Nat}:∀{l:List Nat},refuse b q room l=0→ ∀j∈l,ruleF b q (needF q.k) room j=0
 | [],_,j,hj=>nomatch hj
 | i::l,h,j,hj=>by
  unfold refuse at h;split at h
  ·rename_i h0;rcases List.mem_cons.1 hj with e | e
   ·rw [e];exact h0
   ·exact refuse_zero h j e
  ·rename_i h0;exact absurd h h0
def recQ (b:Bk)(q:Rq):Nat×Nat×Nat×Nat×Nat:=
 if q.k=1 then (1,b.next,q.seat,b.clock+q.ttl,0)
 else if q.k=4 then (4,q.id,q.seat,0,0)
 else if q.k=7 then (5,0,0,0,b.clock+q.ttl)
 else (q.k,q.id,0,0,0)
def replyQ (b:Bk)(q:Rq):Rp:=
 if q.k=1 then ⟨q.tag,1,0,b.next,0,b.clock+q.ttl,0⟩
 else if q.k=4 then ⟨q.tag,4,0,0,q.seat,0,0⟩
 else if q.k=7 then ⟨q.tag,7,0,0,0,b.clock+q.ttl,0⟩
 else ⟨q.tag,q.k,0,0,0,0,0⟩
def answerQ (b:Bk)(q:Rq):Rp:=
 if q.k=5 then (match get b q.id with
  | none=>⟨q.tag,5,171,0,0,0,0⟩
  | some x=>⟨q.tag,5,0,0,x.2.1,x.2.2,0⟩)
 else if q.k=6 then
  if b.s≤q.seat then ⟨q.tag,6,140,0,0,0,0⟩
  else if held b q.seat then ⟨q.tag,6,0,(b.l[q.seat]?.getD z).1,0,(b.l[q.seat]?.getD z).2.2,0⟩
  else ⟨q.tag,6,171,0,0,0,0⟩
 else ⟨q.tag,10,0,0,0,0,nT b.l⟩
end
end BookPlain
namespace Go.Proofs.YtdjiopacieadpaaGreatDoor
section
open Go.RowKit
structure Bt (w:World)(p g n W:Nat):Prop where
 hd:w.heap[p]?=some (Obj.cells #[.bool true,.int .i64 n,.slice (some ⟨g,0,none⟩) 1 1] 253 (0,0))
 wd:w.heap[g]?=some (Obj.cells #[.int .u64 W] 39 (0,0))
 hn:1≤n∧n≤24
 hW:W<2 ^ 24
theorem Bt.kp {w w':World}{p g n W:Nat}{F:Nat→Prop}(h:Bt w p g n W)(hk:Kp F w w')(h1:¬F p)(h2:¬F g):Bt w' p g n W:=⟨hk.blk h.hd h1,hk.blk h.wd h2,h.hn,h.hW⟩
theorem Bt.new {w w':World}{p g n W:Nat}(h:Bt w p g n W)(hb:Below w.heap.size w w'):Bt w' p g n W:=⟨Bl.blk hb h.hd,Bl.blk hb h.wd,h.hn,h.hW⟩
def onW (W i:Nat):Nat:=W ||| 2 ^ i
def offW (W i:Nat):Nat:=W &&& (18446744073709551615-2 ^ i)
theorem on_bit (W i j:Nat):(onW W i).testBit j=(W.testBit j || decide (i=j)):=by unfold onW;rw [Nat.testBit_or,Nat.testBit_two_pow]
theorem off_bit {W i:Nat}(hi:i<24)(j:Nat)(hj:j<24):(offW W i).testBit j=(W.testBit j && !decide (i=j)):=by
 unfold offW;rw [Nat.testBit_and,show 18446744073709551615-2 ^ i=2 ^ 64-(2 ^ i+1) by omega,Nat.testBit_two_pow_sub_succ (by have:2 ^ i<2 ^ 64:=Nat.pow_lt_pow_right (by omega) (by omega);omega),Nat.testBit_two_pow];rw [show decide (j<64)=true by simp;omega,Bool.true_and]
theorem on_lt {W i:Nat}(hW:W<2 ^ 24)(hi:i<24):onW W i<2 ^ 24:=Nat.or_lt_two_pow hW (Nat.pow_lt_pow_right (by omega) hi)
theorem off_lt {W i:Nat}(hW:W<2 ^ 24):offW W i<2 ^ 24:=Nat.lt_of_le_of_lt Nat.and_le_left hW
theorem bit_test {W i:Nat}(hW:W<2 ^ 24)(hi:i<24):(bits .and .u64 ((W:Int) / 2 ^ i) 1 == 1)=W.testBit i:=by
 have e:(W:Int) / 2 ^ i=((W / 2 ^ i:Nat):Int):=by simp
 have hl:W / 2 ^ i≤W:=Nat.div_le_self _ _;have h24:(2:Nat) ^ 24=16777216:=by decide
 have hb:=u64_and_nat (W / 2 ^ i) 1 (by omega) (by omega);rw [e];have hb':bits .and .u64 ((W / 2 ^ i:Nat):Int) 1=((W / 2 ^ i &&& 1:Nat):Int):=hb;rw [hb',Nat.testBit,Nat.shiftRight_eq_div_pow,Nat.and_one_is_mod,Nat.and_comm,Nat.and_one_is_mod];have:W / 2 ^ i % 2<2:=Nat.mod_lt _ (by omega);generalize W / 2 ^ i % 2=m at this;match m,this with
 | 0,_=>rfl
 | 1,_=>rfl
theorem pow24 {i:Nat}(hi:i<24):2 ^ i<16777216:=by
 have h:2 ^ i<2 ^ 24:=Nat.pow_lt_pow_right (by omega) hi;have e:(2:Nat) ^ 24=16777216:=by decide
 omega
theorem shl_fact {i:Nat}(hi:i<24):IntKind.u64.wrap (2 ^ i)=((2 ^ i:Nat):Int):=by
 have h:=pow24 hi;have e:(2:Int) ^ i=((2 ^ i:Nat):Int):=by simp
 rw [e,IntKind.wrap_u64];generalize 2 ^ i=x at h;omega
theorem or_fact {W i:Nat}(hi:i<24)(hW:W<2 ^ 24):bits .or .u64 (W:Int) (IntKind.u64.wrap (2 ^ i))=(onW W i:Int):=by
 have h24:(2:Nat) ^ 24=16777216:=by decide
 have h:=pow24 hi;rw [shl_fact hi,u64_or_nat _ _ (by omega) (by omega)];rfl
theorem andnot_fact {W i:Nat}(hi:i<24)(hW:W<2 ^ 24):bits .andNot .u64 (W:Int) (IntKind.u64.wrap (2 ^ i))=(offW W i:Int):=by
 have h24:(2:Nat) ^ 24=16777216:=by decide
 have h:=pow24 hi;rw [shl_fact hi,u64_andNot_nat _ _ (by omega) (by omega)];rfl
theorem bthere_any (p g n W:Nat)(w:World)(h:Bt w p g n W):Calls Tryz.prog 207 #[.pointer (some ⟨p,0,none⟩)] w fun e w'=>e = .returned (.bool true)∧w=w':=by
 obtain ⟨c0,_,c1,_,c2,_⟩:=cells3 h.hd;clear h;go_enter Tryz.func207,Tryz.ntmps207;go_wp2;go_ret;exact ⟨rfl,rfl⟩
theorem bhas_in (p g n W i:Nat)(w:World)(h:Bt w p g n W)(hi:i<n):Calls Tryz.prog 182 #[.pointer (some ⟨p,0,none⟩),.int .i64 i] w fun e w'=>e = .returned (.bool (W.testBit i))∧w=w':=by
 have H:=hid h;obtain ⟨c0,_,c1,_,c2,_⟩:=cells3 h.hd;obtain ⟨d0,_⟩:=cells1 h.wd;have hi24:i<24:=by have:=h.hn;omega
 have hiI:(i:Int)<(n:Int):=by omega
 have hq:(i:Int) / 64=0:=by omega
 have hr:(i:Int) % 64=(i:Int):=by omega
 clear h;go_enter Tryz.func182,Tryz.ntmps182;go_wp2_with fail;refine (bthere_any p g n W _ H.out).mono ?_;rintro e w' ⟨rfl,rfl⟩;go_wp2_with fail;go_ret;exact ⟨ret1_b (bit_test H.out.hW hi24),rfl⟩
theorem bnew_any (n:Nat)(w:World)(h1:1≤n)(h2:n≤24):Calls Tryz.prog 106 #[.int .i64 n] w fun e w'=> ∃p g,e = .returned (.tuple #[.pointer (some ⟨p,0,none⟩),.int .i64 0])∧Bt w' p g n 0∧w.heap.size≤p∧w.heap.size≤g∧p≠g∧Below w.heap.size w w':=by
 have hq:((n:Int)+63) / 64=1:=by omega
 have hmk:∀W:World,(Instr.makeSlice 251 (.int .i64 1) (.int .i64 1)).run Tryz.prog W = .ok (.slice (some ⟨W.heap.size,0,none⟩) 1 1) (W.alloc (.cells #[.int .u64 0] 39)):=fun _=>by kernel_rfl
 go_enter Tryz.func106,Tryz.ntmps106;go_wp2_with fail;go_ret2;have N:=new2 w (.cells #[.int .u64 0] 39) (.cells #[.bool true,.int .i64 n,.slice (some ⟨w.heap.size,0,none⟩) 1 1] 253);exact ⟨w.heap.size+1,w.heap.size,rfl,⟨N.2.1,N.1,⟨h1,h2⟩,by decide⟩,by omega,Nat.le_refl _,by omega,N.2.2.2⟩
theorem bchange_on (p g n W i:Nat)(w:World)(h:Bt w p g n W)(hi:i<n):Calls Tryz.prog 210 #[.pointer (some ⟨p,0,none⟩),.int .i64 i,.bool true] w fun e w'=>e = .returned (.int .i64 0)∧Bt w' p g n (onW W i)∧Kp (· = g) w w':=by
 have H:=hid h;obtain ⟨c0,_,c1,_,c2,_⟩:=cells3 h.hd;obtain ⟨d0,e0⟩:=cells1 h.wd;have hi24:i<24:=by have:=h.hn;omega
 have hiI:(i:Int)<(n:Int):=by omega
 have hor:bits .or .u64 (W:Int) (IntKind.u64.wrap (2 ^ i))=(onW W i:Int):=or_fact hi24 h.hW;have hq:(i:Int) / 64=0:=by omega
 have hr:(i:Int) % 64=(i:Int):=by omega
 clear h;go_enter Tryz.func210,Tryz.ntmps210;go_wp2_with fail;refine (bthere_any p g n W _ H.out).mono ?_;rintro e w' ⟨rfl,rfl⟩;go_wp2_with fail;have HO:=hid hor;clear hor;go_region
 all_goals
  go_wp2_with fail;go_ret;have hk:=(rset1_kp (Kp.refl (· = g) w) rfl (.int .u64 (bits BinOp.or IntKind.u64 (W:Int) (IntKind.u64.wrap (2 ^ i))))).drew;refine ⟨rfl,⟨hk.blk H.out.hd (fun e=>ty_ne H.out.hd H.out.wd (by decide) e),?_,H.out.hn,on_lt H.out.hW hi24⟩,hk⟩;rw [←HO.out];exact rset1 H.out.wd
theorem bchange_off (p g n W i:Nat)(w:World)(h:Bt w p g n W)(hi:i<n):Calls Tryz.prog 210 #[.pointer (some ⟨p,0,none⟩),.int .i64 i,.bool false] w fun e w'=>e = .returned (.int .i64 0)∧Bt w' p g n (offW W i)∧Kp (· = g) w w':=by
 have H:=hid h;obtain ⟨c0,_,c1,_,c2,_⟩:=cells3 h.hd;obtain ⟨d0,e0⟩:=cells1 h.wd;have hi24:i<24:=by have:=h.hn;omega
 have hiI:(i:Int)<(n:Int):=by omega
 have HO:=hid (andnot_fact hi24 h.hW);have hq:(i:Int) / 64=0:=by omega
 have hr:(i:Int) % 64=(i:Int):=by omega
 clear h;go_enter Tryz.func210,Tryz.ntmps210;go_wp2_with fail;refine (bthere_any p g n W _ H.out).mono ?_;rintro e w' ⟨rfl,rfl⟩;go_wp2_with fail;go_region
 all_goals
  go_wp2_with fail;go_ret;have hk:=(rset1_kp (Kp.refl (· = g) w) rfl (.int .u64 (bits BinOp.andNot IntKind.u64 (W:Int) (IntKind.u64.wrap (2 ^ i))))).drew;refine ⟨rfl,⟨hk.blk H.out.hd (fun e=>ty_ne H.out.hd H.out.wd (by decide) e),?_,H.out.hn,off_lt H.out.hW⟩,hk⟩;rw [←HO.out];exact rset1 H.out.wd
theorem bput_any (p g n W i:Nat)(w:World)(h:Bt w p g n W)(hi:i<n):Calls Tryz.prog 184 #[.pointer (some ⟨p,0,none⟩),.int .i64 i] w fun e w'=>e = .returned (.int .i64 0)∧Bt w' p g n (onW W i)∧Kp (· = g) w w':=by
 have C:=hid (bchange_on p g n W i w h hi);clear h hi;go_enter Tryz.func184,Tryz.ntmps184;go_wp2_with fail;refine C.out.mono ?_;rintro e w' ⟨rfl,h1,h2⟩;have H1:=hid h1;have H2:=hid h2;clear h1 h2;go_wp2_with fail;go_ret;exact ⟨rfl,H1.out,H2.out⟩
theorem bdrop_any (p g n W i:Nat)(w:World)(h:Bt w p g n W)(hi:i<n):Calls Tryz.prog 194 #[.pointer (some ⟨p,0,none⟩),.int .i64 i] w fun e w'=>e = .returned (.int .i64 0)∧Bt w' p g n (offW W i)∧Kp (· = g) w w':=by
 have C:=hid (bchange_off p g n W i w h hi);clear h hi;go_enter Tryz.func194,Tryz.ntmps194;go_wp2_with fail;refine C.out.mono ?_;rintro e w' ⟨rfl,h1,h2⟩;have H1:=hid h1;have H2:=hid h2;clear h1 h2;go_wp2_with fail;go_ret;exact ⟨rfl,H1.out,H2.out⟩
end
end Go.Proofs.YtdjiopacieadpaaGreatDoor
