/- Limits, Bid: the program's. -/
import Derived.Test.YtnaogcpcaabbhaaValues
import Derived.Lib.SliceRun
namespace Go.Proofs.Ytnaogcpcaabbhaa
open Go.RowKit FloatPlain

def geB (x y : Nat) : Bool := Ieee.double.order x y == some .gt || Ieee.double.order x y == some .eq
/-- how many seats are not worth more than the price, from place l down -/
def limGo (P : Nat) (q : List Nat) : Nat → Nat
  | 0 => 0
  | l + 1 => if geB (fadd P (at0 q l)) (at0 q (l + 1)) = true then limGo P q l + 1 else 0
theorem limGo_le (P : Nat) (q : List Nat) (l : Nat) : limGo P q l ≤ l := by
  induction l with
  | zero => exact Nat.le_refl _
  | succ l ih =>
    unfold limGo
    split <;> omega
def limOf (fs : List (Nat × List Nat)) (s i : Nat) : Nat := limGo (prA fs i) (val0 fs s i) s

/-- a row of ints -/
def Ib (l : List Nat) : List Value := l.map fun (k : Nat) => Value.int .i64 (k : Int)
theorem Ib_len (l : List Nat) : (Ib l).length = l.length := by simp [Ib]
theorem Ib_get {q : List Nat} {k : Nat} (h : k < q.length) : (Ib q)[k]? = some (.int .i64 (at0 q k : Nat)) := by
  rw [at0_lt h]; simp [Ib, h]
theorem Ib_set (q : List Nat) (k x : Nat) : (Ib q).set k (.int .i64 (x : Int)) = Ib (q.set k x) := by simp [Ib, List.map_set]
theorem zerosI (n : Nat) : (madeCells (Value.int .i64 0).cells (n * 1)).toList = Ib (List.replicate n 0) := by
  rw [show (Value.int .i64 0).cells = #[Value.int .i64 0] from rfl, Nat.mul_one, toList_madeCells_one]
  simp [Ib]

/-- the limits while they are counted: class i has c so far -/
def curL (fs : List (Nat × List Nat)) (s i c : Nat) : List Nat := (List.range fs.length).map fun j => if j < i then limOf fs s j else if j = i then c else 0
def lims (fs : List (Nat × List Nat)) (s : Nat) : List Nat := (List.range fs.length).map (limOf fs s)
theorem curL_len (fs : List (Nat × List Nat)) (s i c : Nat) : (curL fs s i c).length = fs.length := by simp [curL]
theorem lims_len (fs : List (Nat × List Nat)) (s : Nat) : (lims fs s).length = fs.length := by simp [lims]
theorem curL_at (fs : List (Nat × List Nat)) (s i c : Nat) (h : i < fs.length) : at0 (curL fs s i c) i = c := by
  rw [at0_lt (by rw [curL_len]; exact h)]; simp [curL]
theorem curL_set (fs : List (Nat × List Nat)) (s i c c' : Nat) : (curL fs s i c).set i c' = curL fs s i c' := by
  apply List.ext_getElem
  · simp [curL]
  · intro j h1 h2
    rw [List.getElem_set]
    by_cases e : i = j
    · subst e; simp [curL]
    · have e2 : ¬ j = i := fun h => e h.symm
      simp [curL, e, e2]
theorem curL_zero (fs : List (Nat × List Nat)) (s : Nat) : curL fs s 0 0 = List.replicate fs.length 0 := by
  apply List.ext_getElem
  · simp [curL]
  · intro i h1 h2
    by_cases e : i = 0
    · subst e; simp [curL]
    · simp [curL]
theorem curL_next (fs : List (Nat × List Nat)) (s i : Nat) : curL fs s i (limOf fs s i) = curL fs s (i + 1) 0 := by
  apply List.ext_getElem
  · simp [curL]
  · intro j h1 h2
    simp only [curL, List.getElem_map, List.getElem_range]
    by_cases e : j < i
    · rw [if_pos e, if_pos (by omega)]
    · by_cases e2 : j = i
      · subst e2
        rw [if_neg e, if_pos rfl, if_pos (by omega)]
      · rw [if_neg e, if_neg e2, if_neg (by omega)]
        split <;> rfl
theorem curL_all (fs : List (Nat × List Nat)) (s : Nat) : curL fs s fs.length 0 = lims fs s := by
  apply List.ext_getElem
  · simp [curL, lims]
  · intro i h1 h2
    rw [curL_len] at h1
    simp [curL, lims, h1]

theorem own_other {w : World} {base n size : Nat} {e : TypeId} {v : Value} {xs : List Value} (h : w.ownsRow base e size v n xs) {p : Addr} (hne : v.ownBlock ≠ some p.block) (u : Value) : (w.setCell p u).ownsRow base e size v n xs := by
  refine ⟨h.1, ?_⟩
  rcases h.2 with h2 | ⟨g, cap, cur, hv, hbg, hg, r⟩
  · exact Or.inl h2
  · refine Or.inr ⟨g, cap, cur, hv, hbg, ?_, r⟩
    rw [heap_setCell_other w p g u (fun e => hne (by rw [hv, e]; rfl))]
    exact hg

/-- a row whose cells are set to 0, from a place on -/
theorem own_zero (g n cap base : Nat) : ∀ (m o : Nat) (w : World) (q : List Nat), w.ownsRow base 33 1 (.slice (some ⟨g, 0, none⟩) n cap) n (Fb q) → q.length = n → o + m ≤ n →
    ∃ q', (w.setCells g o (List.replicate m (.float .f64 0))).ownsRow base 33 1 (.slice (some ⟨g, 0, none⟩) n cap) n (Fb q') ∧ q'.length = n ∧ ∀ i, (o ≤ i ∧ i < o + m → at0 q' i = 0) ∧ (¬ (o ≤ i ∧ i < o + m) → at0 q' i = at0 q i) := by
  intro m
  induction m with
  | zero => intro o w q h hl _; exact ⟨q, h, hl, fun i => ⟨fun h => by omega, fun _ => rfl⟩⟩
  | succ m ih =>
    intro o w q h hl hm
    have h1 := (h.stored o (.float .f64 0)).1
    rw [Fb_set] at h1
    obtain ⟨q', a, b, c⟩ := ih (o + 1) _ _ h1 (by rw [List.length_set]; exact hl) (by omega)
    refine ⟨q', a, b, fun i => ⟨fun hi => ?_, fun hi => ?_⟩⟩
    · by_cases e : i = o
      · subst e
        rw [(c i).2 (by omega)]
        rw [at0_lt (by rw [List.length_set]; omega)]
        simp
      · exact (c i).1 (by omega)
    · rw [(c i).2 (by omega)]
      unfold at0
      rw [List.getD_eq_getElem?_getD, List.getD_eq_getElem?_getD, List.getElem?_set_ne (by omega)]

theorem own_cleared {w : World} {g n cap base : Nat} {q : List Nat} (h : w.ownsRow base 33 1 (.slice (some ⟨g, 0, none⟩) n cap) n (Fb q)) (hl : q.length = n) :
    (w.setCells g 0 (List.replicate n (.float .f64 0))).ownsRow base 33 1 (.slice (some ⟨g, 0, none⟩) n cap) n (Fb (zeros n)) := by
  obtain ⟨q', a, b, c⟩ := own_zero g n cap base n 0 w q h hl (by omega)
  have e : q' = zeros n := by
    apply List.ext_getElem
    · simp [zeros, b]
    · intro i h1 h2
      have := (c i).1 (by omega)
      rw [at0_lt h1] at this
      simp [zeros, this]
  rw [e] at a
  exact a

theorem below_setCells {B : Nat} {a : World} (b : Nat) (hb : B ≤ b) : ∀ (vs : List Value) (o : Nat) (w : World), Below B a w → Below B a (w.setCells b o vs) := by
  intro vs
  induction vs with
  | nil => intro o w h; exact h
  | cons v vs ih => intro o w h; exact ih _ _ (h.setCell (p := ⟨b, o, none⟩) hb v)

theorem zero33 (w : World) : (zeroValue 33).run Try.prog w = .ok (.float .f64 0) w := by kernel_rfl

theorem clip_any (g n : Nat) (w : World) : Calls Try.prog 38 #[.slice (some ⟨g, 0, none⟩) n n] w fun e w' => e = .returned (.slice (some ⟨g, 0, none⟩) n n) ∧ w = w' := by
  go_enter Try.func38, Try.ntmps38
  go_wp2_with fail
  go_ret
  exact ⟨rfl, rfl⟩

/-- what one more seat is worth -/
def bidOf (fs : List (Nat × List Nat)) (s : Nat) : Nat := if s = 0 then 0 else fsub (at0 (val0 fs s fs.length) s) (at0 (val0 fs s fs.length) (s - 1))

theorem sub_some {a b : Nat} (ha : FloatPlain.Fin a) (hb : FloatPlain.Fin b) : Ieee.double.sub a b = some (fsub a b) := by
  obtain ⟨r, h1, _⟩ := sub_fin a b ha hb
  unfold fsub
  rw [h1]; rfl

set_option maxRecDepth 8000 in
set_option maxHeartbeats 1000000 in
theorem bid_any (v : Value) (fs : List (Nat × List Nat)) (s : Nat) (w : World) (hv : Fl w v fs) (hwf : Wf fs) (hg : GoodF fs) (hs : s ≤ 1024) :
    Calls Try.prog 14 #[v, .int .i64 s] w fun e w' => e = .returned (.tuple #[.float .f64 (bidOf fs s), .int .i64 0]) ∧ Below w.heap.size w w' := by
  have HV := hid hv
  have HWF := hid hwf
  have HG := hid hg
  clear hv hwf hg
  by_cases h0 : s = 0
  · subst h0
    go_enter Try.func14, Try.ntmps14
    go_wp2_with fail
    refine (values_any _ fs 0 _ HV.out HWF.out HG.out (by omega)).mono ?_
    rintro e w1 ⟨v1, rfl, ho, hb⟩
    have HB := hid hb
    clear ho hb
    go_wp2_with fail
    go_ret2
    exact ⟨rfl, HB.out⟩
  · have hb0 : bidOf fs s = fsub (at0 (val0 fs s fs.length) s) (at0 (val0 fs s fs.length) (s - 1)) := by unfold bidOf; rw [if_neg h0]
    rw [hb0]
    clear hb0
    obtain ⟨D, hD⟩ : ∃ D, fsub (at0 (val0 fs s fs.length) s) (at0 (val0 fs s fs.length) (s - 1)) = D := ⟨_, rfl⟩
    have HD := hid hD
    rw [hD]
    clear hD
    have hs1 : ¬ ((s : Int) = 0) := by omega
    have hw1 : IntKind.i64.wrap ((s : Int) - 1) = ((s - 1 : Nat) : Int) := by rw [IntKind.wrap_i64]; omega
    have hlt1 : (s : Int) < (s : Int) + 1 := by omega
    have hlt2 : ((s - 1 : Nat) : Int) < (s : Int) + 1 := by omega
    go_enter Try.func14, Try.ntmps14
    go_wp2_with fail
    refine (values_any _ fs s _ HV.out HWF.out HG.out (by omega)).mono ?_
    rintro e w1 ⟨v1, rfl, ho, hb⟩
    have HB := hid hb
    have HO := hid ho
    obtain ⟨g, cap, rfl, hcap, _⟩ := own_some ho (by omega)
    clear ho hb
    have hq1 := HO.out.cellAt s (by omega)
    rw [Fb_get (by rw [val0_len]; omega)] at hq1
    have hq2 := HO.out.cellAt (s - 1) (by omega)
    rw [Fb_get (by rw [val0_len]; omega)] at hq2
    have hp := (val0_bound HWF.out HG.out s fs.length).pos (by omega)
    have hop := sub_run (sub_some (hp s).fin (hp (s - 1)).fin)
    rw [HD.out] at hop
    generalize at0 (val0 fs s fs.length) s = A at hq1 hop
    generalize at0 (val0 fs s fs.length) (s - 1) = A' at hq2 hop
    clear hp
    go_wp2_with fail
    go_region
    go_wp2_with fail
    go_ret2
    exact ⟨rfl, HB.out.drew⟩

theorem bid_no (v : Value) (fs : List (Nat × List Nat)) (s : Int) (w : World) (hv : Fl w v fs) (hwf : Wf fs) (h : ¬ (GoodF fs ∧ 0 ≤ s ∧ s ≤ 1024)) :
    Calls Try.prog 14 #[v, .int .i64 s] w fun e w' => e = .returned (.tuple #[.float .f64 0, .int .i64 (err fs s)]) ∧ Below w.heap.size w w' := by
  have HV := hid hv
  have HWF := hid hwf
  have H := hid h
  have hne : ¬ err fs s = 0 := by
    unfold err
    split
    · rename_i hg
      rw [if_neg (fun h9 => h ⟨hg, h9⟩)]; decide
    · decide
  obtain ⟨E, hE⟩ : ∃ E, err fs s = E := ⟨_, rfl⟩
  rw [hE] at hne ⊢
  have HE := hid hE
  clear hv hwf h hE
  go_enter Try.func14, Try.ntmps14
  go_wp2_with fail
  refine (values_no _ fs s _ HV.out HWF.out H.out).mono ?_
  rintro e w1 ⟨rfl, hb⟩
  rw [HE.out]
  have HB := hid hb
  clear hb
  go_wp2_with fail
  go_ret2
  exact ⟨rfl, HB.out⟩

/-- the price and a seat's worth, one below: their sum has a value -/
theorem ahead_some {fs : List (Nat × List Nat)} (hw : Wf fs) (hg : GoodF fs) (s i l : Nat) (hi : i < fs.length) : Ieee.double.add (prA fs i) (at0 (val0 fs s i) l) = some (fadd (prA fs i) (at0 (val0 fs s i) l)) ∧ Pos (fadd (prA fs i) (at0 (val0 fs s i) l)) := by
  have hd := elem_dear hw (k := i) (fun j hj => hg.2.2 j (by omega))
  have hb := val0_bound hw hg s i
  have h := add_nn hd.1 (hb.pos (by omega) l) (k := two (240 + 1)) (by
    rw [val_two]
    have h1 := val_le (hb l)
    have h2 := val_le (two_le (m := 40) (n := 240) (by omega))
    have h3 := hd.2
    omega)
  exact ⟨h.1, Nat.lt_of_le_of_lt h.2.1 (two_pos (by omega))⟩

theorem limGo_yes {P l : Nat} {q : List Nat} (h : geB (fadd P (at0 q l)) (at0 q (l + 1)) = true) : limGo P q (l + 1) = limGo P q l + 1 := by
  show (if geB (fadd P (at0 q l)) (at0 q (l + 1)) = true then limGo P q l + 1 else 0) = _
  rw [if_pos h]
theorem limGo_no {P l : Nat} {q : List Nat} (h : geB (fadd P (at0 q l)) (at0 q (l + 1)) = false) : limGo P q (l + 1) = 0 := by
  show (if geB (fadd P (at0 q l)) (at0 q (l + 1)) = true then limGo P q l + 1 else 0) = _
  rw [if_neg (by rw [h]; decide)]

set_option maxRecDepth 8000 in
set_option maxHeartbeats 4000000 in
theorem limits_any (v : Value) (fs : List (Nat × List Nat)) (s : Nat) (w : World) (hv : Fl w v fs) (hwf : Wf fs) (hg : GoodF fs) (hs : s ≤ 1024) :
    Calls Try.prog 13 #[v, .int .i64 s] w fun e w' => ∃ v', e = .returned (.tuple #[v', .int .i64 0]) ∧ w'.ownsRow w.heap.size 3 1 v' fs.length (Ib (lims fs s)) ∧ Below w.heap.size w w' := by
  obtain ⟨a, c, rfl, hc, hcm, hnone⟩ := Fl_parts hv
  obtain ⟨n, hn⟩ : ∃ n, fs.length = n := ⟨_, rfl⟩
  obtain ⟨i0, hi, hz0, hz1, hz2⟩ := info_parts info3
  have HI := hid hi
  have HZ := hid hz2
  have HV := hid hv
  have HN := hid hn
  have HWF := hid hwf
  have HG := hid hg
  have hn16 : n ≤ 16 := by rw [← hn]; exact hg.2.1
  have hn1 : 1 ≤ n := by rw [← hn]; exact hg.1
  rw [hn] at hc HV ⊢
  unfold maxLen at hcm
  clear hv hn hwf hg hi hz2
  have hstf := store_run
  go_enter Try.func13, Try.ntmps13
  go_wp2_with fail
  refine (values_any _ fs s _ HV.out HWF.out HG.out (by omega)).mono ?_
  rintro e w1 ⟨v1, rfl, ho, hb⟩
  have HB := hid hb
  obtain ⟨g, cap, rfl, hcap, hbg⟩ := own_some ho (by omega)
  have hcl : ∀ ty, (Builtin.clear_ #[27] ty #[.slice (some ⟨g, 0, none⟩) (s + 1) cap]).run Try.prog w1 = .ok (.tuple #[]) (w1.setCells g 0 (List.replicate (s + 1) (.float .f64 0))) :=
    fun ty => Lib.run_clear_slice w1 27 33 ty (.float .f64 0) Try.underlying27 zero33 rfl rfl g 0 (s + 1) cap (by omega) (fun j hj => by
      have h := ho.cellAt j (by omega)
      rw [Fb_get (by rw [val0_len]; exact hj)] at h
      rw [Nat.zero_add, h]; rfl) (fun j hj => by rw [Nat.zero_add]; exact ho.frozenAt j)
  have HO1 := hid (own_cleared ho (val0_len fs s _))
  have HB1 := hid (below_setCells (B := w.heap.size) g hbg (List.replicate (s + 1) (.float .f64 0)) 0 _ hb)
  obtain ⟨w2, hw2⟩ : ∃ w2, w1.setCells g 0 (List.replicate (s + 1) (.float .f64 0)) = w2 := ⟨_, rfl⟩
  rw [hw2] at hcl HO1 HB1
  have HBG := hid hbg
  clear ho hb hw2 hbg
  go_wp2_with (first
    | simp only [hcl]
    | (at_make; refine wpList_make_full _ rfl _ _ 30 rfl w.heap.size 3 i0 (.int .i64 0) 1 Try.underlying30 HI.out hz0 hz1 .i64 .i64 _ _ n rfl rfl rfl rfl (by rw [HZ.out]; omega) (by unfold maxLen; omega) HB1.out.size ?_; intro w3 hown hgrow))
  have hb3 := (Below.refl w2.heap.size w2).grown hgrow (Nat.le_refl _) (fun k hk => absurd (show (none : Option Nat) = some k from hk) (by simp))
  have hg2 : g < w2.heap.size := by
    rcases HO1.out.2 with ⟨h9, _⟩ | ⟨g9, cap9, cur9, h9, _, hg9, _⟩
    · cases h9
    · injection h9 with h9
      injection h9 with h9
      injection h9 with h9
      subst h9
      exact (Array.getElem?_eq_some_iff.1 hg9).1
  obtain ⟨go, hgo⟩ : ∃ go, w2.heap.size = go := ⟨_, rfl⟩
  have hgob : w.heap.size ≤ go := by rw [← hgo]; exact HB1.out.size
  have hgo3 : go < w3.heap.size := by
    rcases hown.2 with ⟨h9, _⟩ | ⟨g9, cap9, cur9, h9, _, hg9, _⟩
    · cases h9
    · injection h9 with h9
      injection h9 with h9
      injection h9 with h9
      rw [hgo] at h9
      subst h9
      exact (Array.getElem?_eq_some_iff.1 hg9).1
  have ho1 := own_below HO1.out hb3 (Nat.le_refl _)
  have hb4 := HB1.out.trans (hb3.mono HB1.out.size)
  rw [zerosI, ← HN.out, ← curL_zero fs s, HN.out] at hown
  rw [hgo] at hg2 hown ⊢
  have HOW := hid hown
  have HO3 := hid (show w3.ownsRow w.heap.size 33 1 _ (s + 1) (Fb (val0 fs s 0)) from ho1)
  have HB3 := hid hb4
  have HG2 := hid hg2
  have HGO := hid hgob
  have HGO3 := hid hgo3
  clear hb3 ho1 hb4 hg2 hown hgrow hgo hgob hgo3
  go_loopw [6, 27] (fun x i wr => ∃ k gv cv : Nat, k ≤ n ∧ i = .int .i64 k ∧ x = .slice (some ⟨gv, 0, none⟩) (s + 1) cv ∧ s + 1 ≤ cv ∧ gv ≠ go ∧ go < wr.heap.size ∧ wr.ownsRow w.heap.size 33 1 x (s + 1) (Fb (val0 fs s k)) ∧ wr.ownsRow w.heap.size 3 1 (.slice (some ⟨go, 0, none⟩) n n) n (Ib (curL fs s k 0)) ∧ Below w.heap.size w wr) (fun _ i _ => n - (intOf i).toNat)
  case atStart => exact ⟨0, g, cap, by omega, rfl, rfl, hcap, Nat.ne_of_lt HG2.out, HGO3.out, HO3.out, HOW.out, HB3.out⟩
  case round =>
    obtain ⟨k, gv, cv, hk, rfl, rfl, hcv, hne, hgs, hoV, hoL, hbR⟩ := hrel
    have HOV := hid hoV
    have HOL := hid hoL
    have HBR := hid hbR
    have HNE := hid hne
    have HGS := hid hgs
    clear hoV hoL hbR hne hgs
    by_cases hlt : k < n
    · have hlt' : (k : Int) < (n : Int) := by omega
      obtain ⟨b, off, cw, rfl, hbl, q1, q2, q3⟩ := Fl_cell (k := k) HV.out (by rw [HN.out]; exact hlt)
      have HC := hid q3
      obtain ⟨ca, cc, rfl, hcc, hccm, hcn⟩ := Sl_partsF HC.out
      clear q3
      have e1 : wr.cell? ⟨b, off + k * 2, none⟩ = some (.float .f64 (prA fs k)) := by rw [HBR.out.cell (p := ⟨b, off + k * 2, none⟩) hbl]; exact q1
      have e2 : wr.cell? ⟨b, off + k * 2 + 1, none⟩ = some (.slice ca (csA fs k).length cc) := by rw [HBR.out.cell (p := ⟨b, off + k * 2 + 1, none⟩) hbl]; exact q2
      clear q1 q2
      obtain ⟨P, hP⟩ : ∃ P, prA fs k = P := ⟨_, rfl⟩
      rw [hP] at e1
      have HP := hid hP
      clear hP
      obtain ⟨gS, hgS⟩ : ∃ gS, wr.heap.size = gS := ⟨_, rfl⟩
      have c0 : (wr.alloc (.cells #[.float .f64 P, .slice ca (csA fs k).length cc] 48)).cell? ⟨gS, 0, none⟩ = some (.float .f64 P) := by rw [← hgS]; exact World.cell?_alloc_new wr _ _ 0
      have c1 : (wr.alloc (.cells #[.float .f64 P, .slice ca (csA fs k).length cc] 48)).cell? ⟨gS, 1, none⟩ = some (.slice ca (csA fs k).length cc) := by rw [← hgS]; exact World.cell?_alloc_new wr _ _ 1
      have b0 := HBR.out.alloc HBR.out.size (.cells #[.float .f64 P, .slice ca (csA fs k).length cc] 48)
      have o0 := HOV.out.alloc (.cells #[.float .f64 P, .slice ca (csA fs k).length cc] 48)
      have o1 := HOL.out.alloc (.cells #[.float .f64 P, .slice ca (csA fs k).length cc] 48)
      have hz0 : go < (wr.alloc (.cells #[.float .f64 P, .slice ca (csA fs k).length cc] 48)).heap.size := by have := HGS.out; simp; omega
      have hgne : go ≠ gS := by have := HGS.out; omega
      obtain ⟨hok, hlik⟩ := val0_ok HWF.out HG.out s k (by rw [HN.out]; exact hlt)
      rw [HP.out] at hok
      have HOK := hid hok
      have HLIK := hid hlik
      have hnx := val0_next fs s k (by rw [HN.out]; exact hlt)
      rw [HP.out] at hnx
      have HNX := hid hnx.symm
      clear hok hlik hnx
      have HGNE := hid hgne
      have HHS := hid hgS
      have C0 := hid c0
      have C1 := hid c1
      have B0 := hid b0
      have O0 := hid o0
      have O1 := hid o1
      have Z0 := hid hz0
      clear c0 c1 b0 o0 o1 hz0 hgne
      go_wp2_with fail
      clear hgS
      go_loopw [11] (fun l wi => ∃ j c : Nat, j ≤ s ∧ l = .int .i64 j ∧ c + limGo P (val0 fs s k) j = limOf fs s k ∧ wi.cell? ⟨gS, 0, none⟩ = some (.float .f64 P) ∧ wi.cell? ⟨gS, 1, none⟩ = some (.slice ca (csA fs k).length cc) ∧ go < wi.heap.size ∧
        wi.ownsRow w.heap.size 33 1 (.slice (some ⟨gv, 0, none⟩) (s + 1) cv) (s + 1) (Fb (val0 fs s k)) ∧ wi.ownsRow w.heap.size 3 1 (.slice (some ⟨go, 0, none⟩) n n) n (Ib (curL fs s k c)) ∧ Below w.heap.size w wi) (fun l _ => (intOf l).toNat)
      case atStart => exact ⟨s, 0, Nat.le_refl _, rfl, by rw [Nat.zero_add, ← HP.out]; rfl, C0.out, C1.out, Z0.out, O0.out, O1.out, B0.out⟩
      case round =>
        obtain ⟨j, c, hj, rfl, hcnt, c0, c1, z0, o0, o1, b0⟩ := hrel
        have HCNT := hid hcnt
        have O0 := hid o0
        have O1 := hid o1
        have B0 := hid b0
        have Z0 := hid z0
        have C1 := hid c1
        have C0 := hid c0
        clear hcnt o0 o1 b0 z0
        by_cases hj0 : 0 < j
        · obtain ⟨l, hl⟩ : ∃ l, j = l + 1 := ⟨j - 1, by omega⟩
          have hpos : (0 : Int) < (j : Int) := by omega
          have hw1 : IntKind.i64.wrap ((j : Int) - 1) = (l : Int) := by rw [IntKind.wrap_i64]; omega
          have hlt1 : (j : Int) < (s : Int) + 1 := by omega
          have hlt2 : (l : Int) < (s : Int) + 1 := by omega
          have r1 := O0.out.cellAt j (by omega)
          rw [Fb_get (by rw [val0_len]; omega)] at r1
          have r2 := O0.out.cellAt l (by omega)
          rw [Fb_get (by rw [val0_len]; omega)] at r2
          have r3 := O1.out.cellAt k (by omega)
          rw [Ib_get (by rw [curL_len, HN.out]; exact hlt), curL_at _ _ _ _ (by rw [HN.out]; exact hlt)] at r3
          have ha := add_run (ahead_some HWF.out HG.out s k l (by rw [HN.out]; exact hlt)).1
          rw [HP.out] at ha
          obtain ⟨D, hD⟩ : ∃ D, fadd P (at0 (val0 fs s k) l) = D := ⟨_, rfl⟩
          rw [hD] at ha
          obtain ⟨ge, hge⟩ : ∃ ge, (FloatKind.f64.format.order D (at0 (val0 fs s k) j) == some .gt || FloatKind.f64.format.order D (at0 (val0 fs s k) j) == some .eq) = ge := ⟨_, rfl⟩
          have hgeb : geB (fadd P (at0 (val0 fs s k) l)) (at0 (val0 fs s k) (l + 1)) = ge := by rw [hD, ← hl]; exact hge
          have HGE := hid hgeb
          have HL := hid hl
          have hci : c ≤ 1024 := by
            have h1 := HCNT.out
            have h2 : limOf fs s k ≤ s := limGo_le _ _ _
            omega
          have hw2 : IntKind.i64.wrap ((c : Int) + 1) = (c : Int) + 1 := by rw [IntKind.wrap_i64]; omega
          have hfr : wr.frozen? ⟨go, k, none⟩ = false := O1.out.frozenAt k
          have hst := (O1.out.stored k (.int .i64 ((c + 1 : Nat) : Int))).1
          rw [Ib_set, curL_set] at hst
          have HST := hid hst
          clear hst hgeb hD hl
          generalize at0 (val0 fs s k) j = A at r1 hge
          generalize at0 (val0 fs s k) l = A' at r2 ha
          cases ge
          · have HCC := hid (show c = limOf fs s k by
              have h1 := HCNT.out
              rw [HL.out, limGo_no HGE.out] at h1
              omega)
            go_wp2_with fail
            go_region
            go_wp2_with fail
            refine (next_any _ _ (val0 fs s k) (csA fs k) P _ (Sl_of_own O0.out.drew) (Sl_below HC.out B0.out.drew (Nat.le_refl _)) (by rw [val0_len]; omega) HLIK.out HOK.out).mono ?_
            rintro e w4 ⟨v4, rfl, ho4, hb4⟩
            rw [val0_len] at ho4
            rw [HNX.out] at ho4
            obtain ⟨g4, cap4, rfl, hcap4, hbg4⟩ := own_some ho4 (by omega)
            have hsz : wr.drew.heap.size = wr.heap.size := rfl
            rw [hsz] at hbg4 hb4 ho4
            have HO4 := hid (own_mono (base' := w.heap.size) ho4 B0.out.size)
            have HL4 := hid (own_below O1.out.drew hb4 (Nat.le_refl _))
            have HB4 := hid (B0.out.drew.trans (hb4.mono B0.out.size))
            have HG4 := hid hbg4
            have HZ4 := hid (show wr.heap.size ≤ w4.heap.size from hb4.size)
            clear ho4 hb4 hbg4 hsz
            go_wp2_with fail
            go_roundw
            case rel => exact ⟨k + 1, g4, cap4, by omega, by go_num, rfl, hcap4, by have := HG4.out; have := Z0.out; omega, by have := HZ4.out; have := Z0.out; omega, HO4.out, by rw [← curL_next, ← HCC.out]; exact HL4.out, HB4.out⟩
            case measure => simp [intOf]; omega
          · go_wp2_with fail
            go_region
            go_wp2_with fail
            go_roundw
            case rel =>
              refine ⟨l, c + 1, by have := HL.out; omega, by go_num, ?_, ?_, ?_, ?_, ?_, ?_, ?_⟩
              · have h1 := HCNT.out
                rw [HL.out, limGo_yes HGE.out] at h1
                omega
              · show (wr.setCell ⟨go, k, none⟩ _).cell? ⟨gS, 0, none⟩ = _
                rw [World.cell?_setCell_other _ _ _ _ (by intro hc9; injection hc9 with h9 _; exact HGNE.out h9)]
                exact C0.out
              · show (wr.setCell ⟨go, k, none⟩ _).cell? ⟨gS, 1, none⟩ = _
                rw [World.cell?_setCell_other _ _ _ _ (by intro hc9; injection hc9 with h9 _; exact HGNE.out h9)]
                exact C1.out
              · have := Z0.out
                simp; omega
              · exact (own_other O0.out (p := ⟨go, k, none⟩) (by show some gv ≠ some go; intro h9; injection h9 with h9; exact HNE.out h9) _).drew
              · exact HST.out.drew
              · exact (B0.out.setCell (p := ⟨go, k, none⟩) HGO.out _).drew
            case measure => have := HL.out; simp [intOf]; omega
        · have hj1 : j = 0 := by omega
          have hneg : (j : Int) ≤ 0 := by omega
          have HCC := hid (show c = limOf fs s k by
              have h1 := HCNT.out
              rw [hj1] at h1
              exact h1)
          clear hj1
          go_wp2_with fail
          go_region
          go_wp2_with fail
          refine (next_any _ _ (val0 fs s k) (csA fs k) P _ (Sl_of_own O0.out.drew) (Sl_below HC.out B0.out.drew (Nat.le_refl _)) (by rw [val0_len]; omega) HLIK.out HOK.out).mono ?_
          rintro e w4 ⟨v4, rfl, ho4, hb4⟩
          rw [val0_len] at ho4
          rw [HNX.out] at ho4
          obtain ⟨g4, cap4, rfl, hcap4, hbg4⟩ := own_some ho4 (by omega)
          have hsz : wr.drew.heap.size = wr.heap.size := rfl
          rw [hsz] at hbg4 hb4 ho4
          have HO4 := hid (own_mono (base' := w.heap.size) ho4 B0.out.size)
          have HL4 := hid (own_below O1.out.drew hb4 (Nat.le_refl _))
          have HB4 := hid (B0.out.drew.trans (hb4.mono B0.out.size))
          have HG4 := hid hbg4
          have HZ4 := hid (show wr.heap.size ≤ w4.heap.size from hb4.size)
          clear ho4 hb4 hbg4 hsz
          go_wp2_with fail
          go_roundw
          case rel => exact ⟨k + 1, g4, cap4, by omega, by go_num, rfl, hcap4, by have := HG4.out; have := Z0.out; omega, by have := HZ4.out; have := Z0.out; omega, HO4.out, by rw [← curL_next, ← HCC.out]; exact HL4.out, HB4.out⟩
          case measure => simp [intOf]; omega
    · obtain rfl : k = n := by omega
      have hfin := HOL.out
      rw [← HN.out, curL_all, HN.out] at hfin
      have HFIN := hid hfin
      clear hfin
      go_wp2_with fail
      refine (clip_any go k _).mono ?_
      rintro e w5 ⟨rfl, hw⟩
      obtain rfl := hw
      go_wp2_with fail
      go_ret2
      exact ⟨_, rfl, HFIN.out, HBR.out⟩
end Go.Proofs.Ytnaogcpcaabbhaa
