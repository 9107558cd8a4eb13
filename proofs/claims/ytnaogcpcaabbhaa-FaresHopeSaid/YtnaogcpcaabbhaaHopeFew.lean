/- few: fares of few classes, made of any numbers. -/
import Derived.Test.YtnaogcpcaabbhaaHopeEdge
import Derived.Test.YtnaogcpcaabbhaaCopy
namespace Go.Proofs.Ytnaogcpcaabbhaa
open Go.RowKit FloatPlain

theorem quo_run {a b c : Nat} (h : Ieee.double.div a b = some c) (t : TypeId) (w : World) : (binOp .quo t (.float .f64 a) (.float .f64 b)).run Try.prog w = .ok (.float .f64 c) w := run_float_arith w .quo t .f64 a b c h

/-- a row of ints as cells -/
def Zb (l : List Int) : List Value := l.map (Value.int .i64)
theorem Zb_len (l : List Int) : (Zb l).length = l.length := by simp [Zb]
theorem Sl_partsZ {w : World} {v : Value} {l : List Int} (h : Sl w v (Zb l)) : ∃ a c, v = .slice a l.length c ∧ l.length ≤ c ∧ c ≤ maxLen := by
  obtain ⟨a, c, rfl, hc, hcm, _⟩ := h
  rw [Zb_len] at hc ⊢
  exact ⟨a, c, rfl, hc, hcm⟩
theorem Sl_cellZ {w : World} {a : Option Addr} {n c k : Nat} {l : List Int} (h : Sl w (.slice a n c) (Zb l)) (hk : k < l.length) :
    ∃ b off x, a = some ⟨b, off, none⟩ ∧ b < w.heap.size ∧ w.cell? ⟨b, off + k, none⟩ = some (.int .i64 x) := by
  obtain ⟨a', c', e, _, _, h9⟩ := h
  injection e with e1 e2 e3
  subst e1
  rcases h9 with ⟨h9, _⟩ | ⟨b, off, rfl, hb, hcell⟩
  · have := Zb_len l
    rw [h9] at this
    simp at this
    omega
  · exact ⟨b, off, l[k], rfl, hb, hcell k _ (by simp [Zb, hk])⟩

/-! whole floats -/
theorem intW_zero : intW ((0 : Nat) : Int) = 0 := (int_word (n := 0) (by omega) zero_pos (by rw [val_zero, Nat.zero_mul])).symm
theorem intW_top : intW ((1000 : Nat) : Int) = 4652007308841189376 := by decide +kernel
/-- whole floats as words -/
def Wb (ws : List Nat) : List Nat := ws.map fun (x : Nat) => intW (x : Int)
theorem Wb_snoc (ws : List Nat) (x : Nat) : Wb (ws ++ [x]) = Wb ws ++ [intW (x : Int)] := by simp [Wb]
theorem Wb_len (ws : List Nat) : (Wb ws).length = ws.length := by simp [Wb]

/-- the first t of four are parts -/
def midC (a b c d S t : Nat) : List Nat := [if 0 < t then FloatPlain.part a S else intW (a : Int), if 1 < t then FloatPlain.part b S else intW (b : Int), if 2 < t then FloatPlain.part c S else intW (c : Int), if 3 < t then FloatPlain.part d S else intW (d : Int)]
theorem midC_zero (a b c d S : Nat) : midC a b c d S 0 = Wb [a, b, c, d] := by
  unfold midC Wb
  rw [if_neg (by omega), if_neg (by omega), if_neg (by omega), if_neg (by omega)]
  simp only [List.map]
theorem midC_all (a b c d S : Nat) : midC a b c d S 4 = [FloatPlain.part a S, FloatPlain.part b S, FloatPlain.part c S, FloatPlain.part d S] := by
  unfold midC
  rw [if_pos (by omega), if_pos (by omega), if_pos (by omega), if_pos (by omega)]
theorem midC_step {a b c d S t : Nat} (h : t < 4) (ha : a ≤ 8) (hb : b ≤ 8) (hc : c ≤ 8) (hd : d ≤ 8) (hS : S = a + b + c + d) (h0 : 1 ≤ S) :
    ∃ q, Ieee.double.div (at0 (midC a b c d S t) t) (intW (S : Int)) = some q ∧ (midC a b c d S t).set t q = midC a b c d S (t + 1) := by
  have p1 := (part_is (w := a) (S := S) ha (by omega) h0 (by omega)).1
  have p2 := (part_is (w := b) (S := S) hb (by omega) h0 (by omega)).1
  have p3 := (part_is (w := c) (S := S) hc (by omega) h0 (by omega)).1
  have p4 := (part_is (w := d) (S := S) hd (by omega) h0 (by omega)).1
  unfold midC
  generalize FloatPlain.part a S = x1 at *
  generalize FloatPlain.part b S = x2 at *
  generalize FloatPlain.part c S = x3 at *
  generalize FloatPlain.part d S = x4 at *
  generalize intW (a : Int) = y1 at *
  generalize intW (b : Int) = y2 at *
  generalize intW (c : Int) = y3 at *
  generalize intW (d : Int) = y4 at *
  generalize intW (S : Int) = z at *
  match t, h with
  | 0, _ => exact ⟨x1, p1, rfl⟩
  | 1, _ => exact ⟨x2, p2, rfl⟩
  | 2, _ => exact ⟨x3, p3, rfl⟩
  | 3, _ => exact ⟨x4, p4, rfl⟩

/-! one class more -/
theorem prA_left {fs : List (Nat × List Nat)} {f : Nat × List Nat} {k : Nat} (h : k < fs.length) : prA (fs ++ [f]) k = prA fs k := by
  unfold prA; rw [List.getD_eq_getElem?_getD, List.getD_eq_getElem?_getD, List.getElem?_append_left h]
theorem csA_left {fs : List (Nat × List Nat)} {f : Nat × List Nat} {k : Nat} (h : k < fs.length) : csA (fs ++ [f]) k = csA fs k := by
  unfold csA; rw [List.getD_eq_getElem?_getD, List.getD_eq_getElem?_getD, List.getElem?_append_left h]
theorem prA_last (fs : List (Nat × List Nat)) (f : Nat × List Nat) : prA (fs ++ [f]) fs.length = f.1 := by
  unfold prA; rw [List.getD_eq_getElem?_getD]; simp
theorem csA_last (fs : List (Nat × List Nat)) (f : Nat × List Nat) : csA (fs ++ [f]) fs.length = f.2 := by
  unfold csA; rw [List.getD_eq_getElem?_getD]; simp

theorem few_nil : Few [] (fun _ => 0) := ⟨Nat.zero_le _, (fun k h => by cases h), fun _ => Nat.zero_le _, (fun k h => by cases h), (fun k h => by cases h)⟩
theorem few_snoc {fs : List (Nat × List Nat)} {ps : Nat → Nat} {P : Nat} {cs : List Nat} (h : Few fs ps) (hl : fs.length < 3) (hP : P ≤ 1000) (hm : ∀ j, j < fs.length → P ≤ ps j) (hn : Nice cs) :
    Few (fs ++ [(intW (P : Int), cs)]) (fun j => if j = fs.length then P else ps j) := by
  refine ⟨by simp; omega, fun k hk => ?_, fun k => ?_, fun k hk => ?_, fun k hk => ?_⟩
  · have hk2 : k < fs.length + 1 := by simpa using hk
    by_cases e : k = fs.length
    · subst e; rw [prA_last, if_pos rfl]
    · rw [prA_left (by omega), if_neg e]; exact h.pr k (by omega)
  · split
    · exact hP
    · exact h.le k
  · have hk2 : k + 1 < fs.length + 1 := by simpa using hk
    rw [if_neg (show ¬ k = fs.length from by omega)]
    by_cases e : k + 1 = fs.length
    · rw [if_pos e]; exact hm k (by omega)
    · rw [if_neg e]; exact h.mono k (by omega)
  · have hk2 : k < fs.length + 1 := by simpa using hk
    by_cases e : k = fs.length
    · subst e; rw [csA_last]; exact hn
    · rw [csA_left (by omega)]; exact h.nice k (by omega)

theorem Fr_snoc1 {w w3 w4 : World} {base n : Nat} {out v4 : Value} {cps : List (Nat × Value)} {fs : List (Nat × List Nat)} {P : Nat} {cs : List Nat} {cv3 : Value} {X : Obj} (hF : Fr w out cps fs) (hps : cps.length = n) (hfs : fs.length = n)
    (ho : w.ownsRow base 48 2 out n (Cl cps)) (hb3 : Below w.heap.size w w3) (hsl : Sl w3 cv3 (Fb cs)) (hnew : ∀ b, cv3.ownBlock = some b → w.heap.size ≤ b ∧ b < w3.heap.size)
    (hgr : (w3.alloc X).grownBy w4 out.ownBlock) (hat : v4.ownBlock = out.ownBlock ∨ v4.ownBlock = some (w3.alloc X).heap.size) : Fr w4 v4 (cps ++ [(P, cv3)]) (fs ++ [(P, cs)]) := by
  have hs3 := hb3.size
  have hs4 := hgr.size
  have hz : (w3.alloc X).heap.size = w3.heap.size + 1 := by simp
  rw [hz] at hs4 hat
  have new : ∀ b, cv3.ownBlock = some b → b < w3.heap.size ∧ out.ownBlock ≠ some b := fun b hb => by
    have h1 := hnew b hb
    exact ⟨h1.2, fun h2 => by have := ho.lt b h2; omega⟩
  refine ⟨fun j hj => ?_⟩
  by_cases e : j < cps.length
  · rw [List.getElem_append_left e]
    obtain ⟨e1, e2, e3⟩ := hF.el j e
    rw [prA_left (by omega), csA_left (by omega)]
    refine ⟨e1, Sl_grown (Sl_below (Sl_below e2 hb3 (Nat.le_refl _)) ((Below.refl w3.heap.size w3).alloc (Nat.le_refl _) X) (Nat.le_refl _)) hgr (fun b hb => (e3 b hb).2), fun b hb => ?_⟩
    obtain ⟨k1, k2⟩ := e3 b hb
    refine ⟨by omega, ?_⟩
    rcases hat with h | h
    · rw [h]; exact k2
    · rw [h]; intro h9; injection h9 with h9; omega
  · have hje : j = cps.length := by rw [List.length_append] at hj; simp at hj; omega
    subst hje
    have hg : (cps ++ [(P, cv3)])[cps.length] = (P, cv3) := by simp
    rw [hg]
    have e1 := prA_last fs (P, cs)
    have e2 := csA_last fs (P, cs)
    rw [hfs, ← hps] at e1 e2
    rw [e1, e2]
    refine ⟨rfl, ?_, fun b hb => ?_⟩
    · exact Sl_grown (Sl_below hsl ((Below.refl w3.heap.size w3).alloc (Nat.le_refl _) X) (Nat.le_refl _)) hgr (fun b hb => (new b hb).2)
    · obtain ⟨k1, k2⟩ := new b hb
      refine ⟨by omega, ?_⟩
      rcases hat with h | h
      · rw [h]; exact k2
      · rw [h]; intro h9; injection h9 with h9; omega

/-- the fares so far -/
structure FewR (w0 w : World) (out : Value) (k P : Nat) : Prop where
  ex : ∃ (cps : List (Nat × Value)) (fs : List (Nat × List Nat)) (ps : Nat → Nat), cps.length = k ∧ fs.length = k ∧ w.ownsRow w0.heap.size 48 2 out k (Cl cps) ∧ Fr w out cps fs ∧ Few fs ps ∧ ∀ j, j < k → P ≤ ps j
  below : Below w0.heap.size w0 w

theorem FewR.start (w : World) (P : Nat) : FewR w w (.slice none 0 0) 0 P :=
  ⟨⟨[], [], fun _ => 0, rfl, rfl, World.ownsRow_nil _ _ _ _, ⟨(fun j h => by cases h)⟩, few_nil, (fun j h => by cases h)⟩, Below.refl _ _⟩

/-- what an append leaves -/
theorem FewR.snoc {w0 w w3 w4 : World} {k P : Nat} {out v4 : Value} {cps : List (Nat × Value)} {fs : List (Nat × List Nat)} {ps : Nat → Nat} {Q : Nat} {cs : List Nat} {cv3 : Value} {X : Obj}
    (h1 : cps.length = k) (h2 : fs.length = k) (ho : w.ownsRow w0.heap.size 48 2 out k (Cl cps)) (hF : Fr w out cps fs) (hw : Few fs ps) (hP : ∀ j, j < k → P ≤ ps j) (hb : Below w0.heap.size w0 w)
    (hk : k < 3) (hQ : Q ≤ P) (hQ1 : Q ≤ 1000) (hn : Nice cs) (hb3 : Below w.heap.size w w3) (hsl : Sl w3 cv3 (Fb cs)) (hnew : ∀ b, cv3.ownBlock = some b → w.heap.size ≤ b ∧ b < w3.heap.size)
    (hgr : (w3.alloc X).grownBy w4 out.ownBlock) (hat : v4.ownBlock = out.ownBlock ∨ v4.ownBlock = some (w3.alloc X).heap.size) (ho4 : w4.ownsRow w0.heap.size 48 2 v4 (k + 1) (Cl cps ++ [.float .f64 (intW (Q : Int)), cv3])) : FewR w0 w4 v4 (k + 1) Q := by
  have hz : (w3.alloc X).heap.size = w3.heap.size + 1 := by simp
  have hs := hb.size
  have hs3 := hb3.size
  refine ⟨⟨cps ++ [(intW (Q : Int), cv3)], fs ++ [(intW (Q : Int), cs)], fun j => if j = fs.length then Q else ps j, by simp [h1], by simp [h2], ?_, Fr_snoc1 hF h1 h2 ho hb3 hsl hnew hgr hat, few_snoc hw (by omega) hQ1 (fun j hj => by have := hP j (by omega); omega) hn, fun j hj => ?_⟩, ?_⟩
  · rw [Cl_app]; exact ho4
  · dsimp only
    split
    · exact Nat.le_refl _
    · have := hP j (by omega); omega
  · exact ((hb.trans (hb3.mono hs)).alloc (by omega) X).grown hgr (by omega) (fun q hq => (ho.lt q hq).1)

theorem FewR.done {w0 w : World} {out : Value} {k P : Nat} (h : FewR w0 w out k P) (hk : 1 ≤ k) : ∃ v' fs ps, out = v' ∧ Fl w v' fs ∧ Few fs ps ∧ 1 ≤ fs.length ∧ Below w0.heap.size w0 w := by
  obtain ⟨⟨cps, fs, ps, h1, h2, ho, hF, hw, _⟩, hb⟩ := h
  exact ⟨out, fs, ps, rfl, Fl_of_Fr ho hF h1 h2, hw, by omega, hb⟩

theorem hot0 : hot 0 = [4607182418800017408] := rfl
theorem hot1 : hot 1 = [0, 4607182418800017408] := rfl
theorem gt_whole {S : Nat} (h : S < 1000) : (FloatKind.f64.format.order (intW (S : Int)) 0 == some .gt) = decide (0 < S) ∧ (FloatKind.f64.format.order (intW (S : Int)) 0 == some .eq) = decide (S = 0) := by
  obtain ⟨p, v⟩ := intW_pos (k := S) (by omega)
  have e1 := cmp_gt p.fin zero_pos.fin
  have e2 := cmp_eq p.fin zero_pos.fin
  have hw := wide_pos
  have hmul : (S * wide = 0) ↔ S = 0 := by
    constructor
    · intro h9
      rcases Nat.mul_eq_zero.1 h9 with h | h
      · exact h
      · omega
    · intro h9; rw [h9, Nat.zero_mul]
  refine ⟨e1.trans ?_, e2.trans ?_⟩
  · rw [p.num, zero_pos.num, val_zero, v]
    rw [decide_eq_decide]
    omega
  · rw [p.num, zero_pos.num, val_zero, v]
    rw [decide_eq_decide]
    omega
end Go.Proofs.Ytnaogcpcaabbhaa
