/- Lists that lie apart: the flat function of two rows. -/
import Derived.Test.YtnaogcpcaabbhaaMarksI
import Derived.Test.YtnaogcpcaabbhaaApartMem
import Derived.Deep.RegionHeld3
namespace Go.Proofs.Ytnaogcpcaabbhaa.I
open Go.RowKit FloatPlain

def mlb (k n : Nat) : List Nat := (List.range n).map (mk k)
theorem mlb_len (k n : Nat) : (mlb k n).length = n := by simp [mlb]
theorem mlb_get (k n i : Nat) (h : i < n) : (mlb k n)[i]'(by rw [mlb_len]; exact h) = mk k i := by simp [mlb]
theorem mlb_succ (k n : Nat) : mlb k (n + 1) = mlb k n ++ [mk k n] := by simp [mlb, List.range_succ]
theorem mlb_set (k i : Nat) (xs : List Nat) (h : i < xs.length) : (mlb k i ++ xs.drop i).set i (mk k i) = mlb k (i + 1) ++ xs.drop (i + 1) := by
  rw [List.set_append_right _ _ (by rw [mlb_len]; exact Nat.le_refl _), mlb_len, Nat.sub_self, mlb_succ, List.append_assoc]
  congr 1
  rw [List.drop_eq_getElem_cons h]
  rfl

/-- the value of row k -/
abbrev row (a : Nat → Option Addr) (n cp : Nat → Nat) (k : Nat) : Value := .slice (a k) (n k) (cp k)

/-- the rows' list: its cells; the rows lie in no block of theirs -/
structure Two (B L : Nat) (a : Nat → Option Addr) (n cp : Nat → Nat) : Prop where
  far : ∀ j k, j < 2 → k < 2 → j ≠ k → Far (row a n cp j) (row a n cp k)
  off : ∀ k, k < 2 → (row a n cp k).ownBlock ≠ some L
  len : ∀ k, k < 2 → n k ≤ 1000000

/-- the memory while the rows are marked -/
structure Mem (B L : Nat) (a : Nat → Option Addr) (n cp : Nat → Nat) (c : Nat → List Nat) (w0 w : World) : Prop where
  own : ∀ k, k < 2 → w.ownsRow B 3 1 (row a n cp k) (n k) (Eb (c k))
  cell : ∀ k, k < 2 → w.cell? ⟨L, k, none⟩ = some (row a n cp k)
  bel : Below B w0 w
  prot : ∀ q, q < w0.heap.size → (∀ k, k < 2 → (row a n cp k).ownBlock ≠ some q) → w.heap[q]? = w0.heap[q]?

theorem Mem.len {B L : Nat} {a : Nat → Option Addr} {n cp : Nat → Nat} {c : Nat → List Nat} {w0 w : World} (h : Mem B L a n cp c w0 w) {k : Nat} (hk : k < 2) : (c k).length = n k := by
  have := (h.own k hk).1
  rw [Eb_len] at this
  omega

theorem Mem.drew {B L : Nat} {a : Nat → Option Addr} {n cp : Nat → Nat} {c : Nat → List Nat} {w0 w : World} (h : Mem B L a n cp c w0 w) : Mem B L a n cp c w0 w.drew :=
  ⟨fun k hk => (h.own k hk).drew, fun k hk => by rw [World.cell?_drew]; exact h.cell k hk, h.bel.drew, h.prot⟩

theorem Mem.cellOf {B L : Nat} {a : Nat → Option Addr} {n cp : Nat → Nat} {c : Nat → List Nat} {w0 w : World} (h : Mem B L a n cp c w0 w) {k i : Nat} (hk : k < 2) (hi : i < n k) :
    ∃ b, a k = some ⟨b, 0, none⟩ ∧ B ≤ b ∧ w.cell? ⟨b, i, none⟩ = some (.int .i64 ((((c k)[i]'(by rw [h.len hk]; exact hi)) : Nat) : Int)) ∧ w.frozen? ⟨b, i, none⟩ = false := by
  have ho := h.own k hk
  rcases ho.2 with ⟨h0, hn⟩ | ⟨g, cap, cur, hv, hb, _⟩
  · omega
  · injection hv with e1 e2 e3
    have hr : row a n cp k = .slice (some ⟨g, 0, none⟩) (n k) (cp k) := by unfold row; rw [e1]
    rw [hr] at ho
    refine ⟨g, e1, hb, ?_, ho.frozenAt i⟩
    rw [ho.cellAt i (by omega)]
    exact Eb_get (by rw [h.len hk]; exact hi)

/-- a mark is stored -/
theorem Mem.store {B L : Nat} {a : Nat → Option Addr} {n cp : Nat → Nat} {c : Nat → List Nat} {w0 w : World} (T : Two B L a n cp) (h : Mem B L a n cp c w0 w) {k i b : Nat} (hk : k < 2) (hb : a k = some ⟨b, 0, none⟩) (hB : B ≤ b) (x : Nat) :
    Mem B L a n cp (fun j => if j = k then (c k).set i x else c j) w0 (w.setCell ⟨b, i, none⟩ (.int .i64 ((x : Nat) : Int))) := by
  have hr : row a n cp k = .slice (some ⟨b, 0, none⟩) (n k) (cp k) := by unfold row; rw [hb]
  have hob : (row a n cp k).ownBlock = some b := by rw [hr]; rfl
  refine ⟨fun j hj => ?_, fun j hj => ?_, h.bel.setCell (p := ⟨b, i, none⟩) hB _, fun q hq hr => by
    rw [Below.heap_setCell _ _ _ _ (by intro e; exact hr k hk (by rw [hob, e]))]; exact h.prot q hq hr⟩
  · by_cases e : j = k
    · subst e
      simp only [if_pos]
      have ho := h.own j hk
      rw [hr] at ho ⊢
      have := (ho.stored i (.int .i64 ((x : Nat) : Int))).1
      rw [Eb_set] at this
      exact this
    · simp only [if_neg e]
      refine ownsRow_setCell_other (h.own j hj) (fun hc => ?_) _
      exact T.far j k hj hk e b hc hob
  · rw [World.cell?_setCell_other _ _ _ _ (by intro hc; injection hc with h1 _; exact T.off k hk (by rw [hob, h1]))]
    exact h.cell j hj

theorem Mem.congr {B L : Nat} {a : Nat → Option Addr} {n cp : Nat → Nat} {c c' : Nat → List Nat} {w0 w : World} (h : Mem B L a n cp c w0 w) (e : ∀ k, k < 2 → c k = c' k) : Mem B L a n cp c' w0 w :=
  ⟨fun k hk => by rw [← e k hk]; exact h.own k hk, h.cell, h.bel, h.prot⟩

/-- what the rows hold when k of them are marked -/
def mk1 (xs : Nat → List Nat) (n : Nat → Nat) (k : Nat) : Nat → List Nat := fun j => if j < k then mlb j (n j) else xs j
/-- and i places of the next one -/
def mk2 (xs : Nat → List Nat) (n : Nat → Nat) (k i : Nat) : Nat → List Nat := fun j => if j = k then mlb k i ++ (xs k).drop i else mk1 xs n k j
def allm (n : Nat → Nat) : Nat → List Nat := fun j => mlb j (n j)

/-- the rows that have grown: k of them, held in a list of their own -/
structure Grow (B L G : Nat) (a : Nat → Option Addr) (n cp : Nat → Nat) (cnt : Nat → List Nat) (g : Nat → Value) (gl : List Value) (k : Nat) (w : World) : Prop where
  gs : w.ownsRow B 30 1 (.slice (some ⟨G, 0, none⟩) 2 2) 2 gl
  got : ∀ j, j < k → gl[j]? = some (g j)
  own : ∀ j, j < k → w.ownsRow B 3 1 (g j) (n j + 64) (Eb (cnt j))
  off : ∀ j, j < k → (g j).ownBlock ≠ some L ∧ (g j).ownBlock ≠ some G
  far : ∀ j, j < k → ∀ i, i < 2 → i ≠ j → Far (g j) (row a n cp i)
  farg : ∀ i j, i < k → j < k → i ≠ j → Far (g i) (g j)

/-- a row in the making, the k-th -/
structure Cand (N L G : Nat) (a : Nat → Option Addr) (n cp : Nat → Nat) (g : Nat → Value) (k : Nat) (v : Value) : Prop where
  far : ∀ i, i < 2 → i ≠ k → Far v (row a n cp i)
  farg : ∀ j, j < k → Far v (g j)
  off : v.ownBlock ≠ some L ∧ v.ownBlock ≠ some G
  new : ∀ q, v.ownBlock = some q → (row a n cp k).ownBlock = some q ∨ N ≤ q

theorem Mem.lt {B L : Nat} {a : Nat → Option Addr} {n cp : Nat → Nat} {c : Nat → List Nat} {w0 w : World} (h : Mem B L a n cp c w0 w) : L < w.heap.size :=
  World.block_lt_of_cell? w _ (h.cell 0 (by omega))

theorem Mem.alloc {B L : Nat} {a : Nat → Option Addr} {n cp : Nat → Nat} {c : Nat → List Nat} {w0 w : World} (h : Mem B L a n cp c w0 w) (hB : B ≤ w.heap.size) (o : Obj) : Mem B L a n cp c w0 (w.alloc o) :=
  ⟨fun k hk => (h.own k hk).alloc o, fun k hk => by rw [World.cell?_alloc_lt _ _ _ h.lt]; exact h.cell k hk, h.bel.alloc hB o, fun q hq hr => by rw [Below.heap_alloc _ _ _ (Nat.lt_of_lt_of_le hq h.bel.size)]; exact h.prot q hq hr⟩

theorem Grow.alloc {B L G : Nat} {a : Nat → Option Addr} {n cp : Nat → Nat} {cnt : Nat → List Nat} {g : Nat → Value} {gl : List Value} {k : Nat} {w : World} (h : Grow B L G a n cp cnt g gl k w) (o : Obj) : Grow B L G a n cp cnt g gl k (w.alloc o) :=
  ⟨h.gs.alloc o, h.got, fun j hj => (h.own j hj).alloc o, h.off, h.far, h.farg⟩

theorem append_step {B L G : Nat} {a : Nat → Option Addr} {n cp : Nat → Nat} {c cnt : Nat → List Nat} {g : Nat → Value} {gl : List Value} {k m : Nat} {w0 w w' : World} {v v' : Value} {ys : List Value} (hk : k < 2)
    (hM : Mem B L a n cp c w0 w) (hG : Grow B L G a n cp cnt g gl k w) (hC : Cand w0.heap.size L G a n cp g k v) (hown : w.ownsRow B 3 1 v m ys) (hm : n k ≤ m) (hB : B ≤ w.heap.size)
    (hg : w.grownBy w' v.ownBlock) (hK : ∀ u n' zs, w.ownsRow B 3 1 u n' zs → (Far u v ∨ n' ≤ m) → w'.ownsRow B 3 1 u n' zs) (hb : ∀ k, v'.ownBlock = some k → v.ownBlock = some k ∨ w.heap.size ≤ k) :
    Mem B L a n cp c w0 w' ∧ Grow B L G a n cp cnt g gl k w' ∧ Cand w0.heap.size L G a n cp g k v' := by
  have hGlt : G < w.heap.size := own_lt hG.gs rfl
  refine ⟨⟨fun j hj => ?_, fun j hj => ?_, ?_, fun q hq hr => ?_⟩, ⟨?_, hG.got, fun j hj => ?_, hG.off, hG.far, hG.farg⟩, ⟨fun i hi hik => ?_, fun j hj => ?_, ⟨?_, ?_⟩, fun q hq => ?_⟩⟩
  · by_cases e : j = k
    · subst e; exact hK _ _ _ (hM.own j hj) (Or.inr hm)
    · exact hK _ _ _ (hM.own j hj) (Or.inl (hC.far j hj e).symm)
  · rw [World.cell?_of_block (w := w) (w' := w') (a := ⟨L, j, none⟩) (hg.block L hM.lt (fun e => hC.off.1 e.symm))]
    exact hM.cell j hj
  · exact hM.bel.grown hg hB (fun q hq => (hown.lt q hq).1)
  · rw [hg.block q (Nat.lt_of_lt_of_le hq hM.bel.size) (fun e => by
      rcases hC.new q e.symm with h | h
      · exact hr k hk h
      · omega)]
    exact hM.prot q hq hr
  · exact own_block hG.gs (fun q hq => by
      have e : q = G := by simpa [Value.ownBlock] using hq.symm
      subst e
      exact hg.block q hGlt (fun e => hC.off.2 e.symm))
  · exact hK _ _ _ (hG.own j hj) (Or.inl (hC.farg j hj).symm)
  · intro q hq hr
    rcases hb q hq with h | h
    · exact hC.far i hi hik q h hr
    · have := own_lt (hM.own i hi) hr; omega
  · intro q hq hr
    rcases hb q hq with h | h
    · exact hC.farg j hj q h hr
    · have := own_lt (hG.own j hj) hr; omega
  · intro e
    rcases hb L e with h | h
    · exact hC.off.1 h
    · have := hM.lt; omega
  · intro e
    rcases hb G e with h | h
    · exact hC.off.2 h
    · omega
  · rcases hb q hq with h | h
    · exact hC.new q h
    · exact Or.inr (Nat.le_trans hM.bel.size h)

theorem grow_store {B L G : Nat} {a : Nat → Option Addr} {n cp : Nat → Nat} {c cnt : Nat → List Nat} {g : Nat → Value} {gl : List Value} {k : Nat} {w0 w : World} {v : Value} (hk : k < 2)
    (hLG : L ≠ G) (hoG : ∀ k, k < 2 → (row a n cp k).ownBlock ≠ some G) (hBG : B ≤ G) (hNG : w0.heap.size ≤ G)
    (hM : Mem B L a n cp c w0 w) (hG : Grow B L G a n cp cnt g gl k w) (hC : Cand w0.heap.size L G a n cp g k v) (hown : w.ownsRow B 3 1 v (n k + 64) (Eb (cnt k))) :
    Mem B L a n cp c w0 (w.setCell ⟨G, k, none⟩ v) ∧ Grow B L G a n cp cnt (fun j => if j = k then v else g j) (gl.set k v) (k + 1) (w.setCell ⟨G, k, none⟩ v) := by
  have hgl : gl.length = 2 := by have := hG.gs.1; omega
  refine ⟨⟨fun j hj => ownsRow_setCell_other (hM.own j hj) (hoG j hj) _, fun j hj => ?_, hM.bel.setCell (p := ⟨G, k, none⟩) hBG _, fun q hq hr => by rw [Below.heap_setCell _ _ _ _ (by show q ≠ G; omega)]; exact hM.prot q hq hr⟩, ⟨(hG.gs.stored k v).1, fun j hj => ?_, fun j hj => ?_, fun j hj => ?_, fun j hj i hi hij => ?_, fun i j hi hj hij => ?_⟩⟩
  · rw [World.cell?_setCell_other _ _ _ _ (by intro hc; injection hc with h1 _; exact hLG h1.symm)]
    exact hM.cell j hj
  · by_cases e : j = k
    · subst e; simp only [if_pos]; rw [List.getElem?_set_self (by omega)]
    · simp only [if_neg e]; rw [List.getElem?_set_ne (by omega)]; exact hG.got j (by omega)
  · by_cases e : j = k
    · subst e; simp only [if_pos]; exact ownsRow_setCell_other hown hC.off.2 _
    · simp only [if_neg e]; exact ownsRow_setCell_other (hG.own j (by omega)) (hG.off j (by omega)).2 _
  · by_cases e : j = k
    · subst e; simp only [if_pos]; exact hC.off
    · simp only [if_neg e]; exact hG.off j (by omega)
  · by_cases e : j = k
    · subst e; simp only [if_pos]; exact hC.far i hi hij
    · simp only [if_neg e]; exact hG.far j (by omega) i hi hij
  · by_cases e : i = k
    · subst e
      have ej : ¬ j = i := by omega
      simp only [if_pos, if_neg ej]; exact hC.farg j (by omega)
    · simp only [if_neg e]
      by_cases e2 : j = k
      · subst e2; simp only [if_pos]; exact (hC.farg i (by omega)).symm
      · simp only [if_neg e2]; exact hG.farg i j (by omega) (by omega) hij

theorem Mem.grown {B L : Nat} {a : Nat → Option Addr} {n cp : Nat → Nat} {c : Nat → List Nat} {w0 w w' : World} (h : Mem B L a n cp c w0 w) (hB : B ≤ w.heap.size) (hg : w.grownBy w' none) : Mem B L a n cp c w0 w' :=
  ⟨fun k hk => own_block (h.own k hk) (fun q hq => hg.block q (own_lt (h.own k hk) hq) (by simp)),
   fun k hk => by rw [World.cell?_of_block (w := w) (w' := w') (a := ⟨L, k, none⟩) (hg.block L h.lt (by simp))]; exact h.cell k hk,
   h.bel.grown hg hB (fun q hq => absurd (show (none : Option Nat) = Option.some q from hq) (by simp)),
   fun q hq hr => by rw [hg.block q (Nat.lt_of_lt_of_le hq h.bel.size) (by simp)]; exact h.prot q hq hr⟩
theorem Grow.cellOf {B L G : Nat} {a : Nat → Option Addr} {n cp : Nat → Nat} {cnt : Nat → List Nat} {g : Nat → Value} {gl : List Value} {k : Nat} {w : World} (h : Grow B L G a n cp cnt g gl k w) {i : Nat} (hi : i < 2) :
    (∃ v, w.cell? ⟨G, i, none⟩ = some v) ∧ w.frozen? ⟨G, i, none⟩ = false := by
  have hl : gl.length = 2 := by have := h.gs.1; omega
  refine ⟨⟨gl[i]'(by omega), ?_⟩, h.gs.frozenAt i⟩
  rw [h.gs.cellAt i (by omega)]
  simp

theorem Mem.below {B L : Nat} {a : Nat → Option Addr} {n cp : Nat → Nat} {c : Nat → List Nat} {w0 w w' : World} (h : Mem B L a n cp c w0 w) (hB : B ≤ w.heap.size) (hb : Below w.heap.size w w') : Mem B L a n cp c w0 w' :=
  ⟨fun k hk => own_below (h.own k hk) hb (Nat.le_refl _), fun k hk => by rw [hb.cell (p := ⟨L, k, none⟩) h.lt]; exact h.cell k hk, h.bel.trans (hb.mono hB), fun q hq hr => by rw [hb.block q (Nat.lt_of_lt_of_le hq h.bel.size)]; exact h.prot q hq hr⟩
theorem Mem.set {B L : Nat} {a : Nat → Option Addr} {n cp : Nat → Nat} {c : Nat → List Nat} {w0 w : World} (h : Mem B L a n cp c w0 w) {b i : Nat} (hr : ∀ k, k < 2 → (row a n cp k).ownBlock ≠ some b) (hL : L ≠ b) (hB : B ≤ b) (hN : w0.heap.size ≤ b) (v : Value) :
    Mem B L a n cp c w0 (w.setCell ⟨b, i, none⟩ v) :=
  ⟨fun k hk => ownsRow_setCell_other (h.own k hk) (hr k hk) _, fun k hk => by
    rw [World.cell?_setCell_other _ _ _ _ (by intro hc; injection hc with h1 _; exact hL h1.symm)]
    exact h.cell k hk, h.bel.setCell (p := ⟨b, i, none⟩) hB _, fun q hq hr => by rw [Below.heap_setCell _ _ _ _ (by show q ≠ b; omega)]; exact h.prot q hq hr⟩
theorem Grow.set {B L G : Nat} {a : Nat → Option Addr} {n cp : Nat → Nat} {cnt : Nat → List Nat} {g : Nat → Value} {gl : List Value} {k : Nat} {w : World} (h : Grow B L G a n cp cnt g gl k w) {b i : Nat} (hg : ∀ j, j < k → (g j).ownBlock ≠ some b) (hG : G ≠ b) (v : Value) :
    Grow B L G a n cp cnt g gl k (w.setCell ⟨b, i, none⟩ v) :=
  ⟨ownsRow_setCell_other h.gs (by intro e; apply hG; simpa [Value.ownBlock] using e) _, h.got, fun j hj => ownsRow_setCell_other (h.own j hj) (hg j hj) _, h.off, h.far, h.farg⟩
theorem Grow.grown {B L G : Nat} {a : Nat → Option Addr} {n cp : Nat → Nat} {cnt : Nat → List Nat} {g : Nat → Value} {gl : List Value} {k : Nat} {w w' : World} (h : Grow B L G a n cp cnt g gl k w) (hg : w.grownBy w' none) : Grow B L G a n cp cnt g gl k w' :=
  ⟨own_block h.gs (fun q hq => hg.block q (own_lt h.gs hq) (by simp)), h.got, fun j hj => own_block (h.own j hj) (fun q hq => hg.block q (own_lt (h.own j hj) hq) (by simp)), h.off, h.far, h.farg⟩

theorem zeros_is : madeCells (Value.int IntKind.i64 0).cells (64 * 1) = madeCells #[Value.int IntKind.i64 0] 64 := rfl
theorem zeros_list : (madeCells #[Value.int IntKind.i64 0] 64).toList = Eb (List.replicate 64 0) := by
  rw [toList_madeCells_one, Eb_rep]


set_option maxRecDepth 8000 in
set_option maxHeartbeats 4000000 in
theorem flat_any (B L c : Nat) (a : Nat → Option Addr) (n cp : Nat → Nat) (xs : Nat → List Nat) (w : World) (hT : Two B L a n cp) (hM : Mem B L a n cp xs w w) (hBw : B ≤ w.heap.size) :
    Calls Try.prog 57 #[.slice (some ⟨L, 0, none⟩) 2 c] w fun e w' => e = .returned (.bool true) ∧ Below B w w' ∧ ∀ q, q < w.heap.size → (∀ k, k < 2 → (row a n cp k).ownBlock ≠ some q) → w'.heap[q]? = w.heap[q]? := by
  have T := hid hT
  have M0 := hid hM
  have HBW := hid hBw
  have hn0 := hT.len 0 (by omega)
  have hn1 := hT.len 1 (by omega)
  have HNL := hid hT.len
  clear hT hM hBw hn0 hn1
  go_enter Try.func57, Try.ntmps57
  go_wp2_with fail
  go_loopw [3] (fun s wr => ∃ k : Nat, k ≤ 2 ∧ s = .int .i64 k ∧ Mem B L a n cp (mk1 xs n k) w wr) (fun s _ => 2 - (intOf s).toNat)
  case atStart => exact ⟨0, by omega, rfl, M0.out.congr fun k hk => by simp [mk1]⟩
  case round =>
    obtain ⟨k, hk, rfl, hm⟩ := hrel
    have HM := hid hm
    clear hm
    by_cases hlt : k < 2
    · have hlt' : (k : Int) < 2 := by omega
      go_wp2_with fail
      go_loopw [4] (fun s wr => ∃ i : Nat, i ≤ n k ∧ s = .int .i64 i ∧ Mem B L a n cp (mk2 xs n k i) w wr) (fun s _ => n k - (intOf s).toNat)
      case atStart => exact ⟨0, by omega, rfl, HM.out.congr fun j hj => by unfold mk2; split; (rename_i e; subst e; simp [mk1, mlb]); rfl⟩
      case round =>
        obtain ⟨i, hi, rfl, hm⟩ := hrel
        have HM2 := hid hm
        have hcl := hm.cell k hlt
        have hnk := HNL.out k hlt
        clear hm
        by_cases hin : i < n k
        · obtain ⟨b, hab, hBb, hcb, hfb⟩ := HM2.out.cellOf hlt hin
          have hin' : (i : Int) < (n k : Int) := by omega
          have HAB := hid hab
          have HBb := hid hBb
          have HIN := hid hin
          unfold row at hcl
          rw [hab] at hcl
          have HCL := hid hcl
          have hLb : L ≠ b := by
            intro e
            have := T.out.off k hlt
            unfold row at this
            rw [hab] at this
            exact this (by rw [e]; rfl)
          have HLB := hid hLb
          obtain ⟨v0, hv0⟩ : ∃ v, wr.cell? ⟨b, i, none⟩ = some v := ⟨_, hcb⟩
          clear hab hBb hcb hLb
          obtain ⟨hcv, hfo, hxx⟩ := mark_facts k i (by omega) (by omega)
          go_wp2_with fail
          go_region_held3 (fun w' => w'.cell? ⟨L, k, none⟩ = some (.slice (some ⟨b, 0, none⟩) (n k) (cp k))) (first | exact HCL.out | (rw [World.cell?_drew]; exact HCL.out) | (rw [World.cell?_drew, World.cell?_setCell_other _ _ _ _ (by intro hc; injection hc with h1 _; exact HLB.out h1.symm)]; exact HCL.out) | (rw [World.cell?_setCell_other _ _ _ _ (by intro hc; injection hc with h1 _; exact HLB.out h1.symm)]; (try rw [World.cell?_drew]); exact HCL.out)) (first | (go_at_call 51; refine (mark_any k i (by omega) (by omega) _).mono ?_; rintro e w' ⟨rfl, hw⟩; obtain rfl := hw))
          go_wp2_with fail
          go_roundw
          case rel =>
            refine ⟨i + 1, by have := HIN.out; omega, by go_num, ((HM2.out.store T.out hlt HAB.out HBb.out (i := i) (mk k i)).drew).congr fun j hj => ?_⟩
            by_cases e : j = k
            · subst e
              simp only [if_pos, mk2]
              exact mlb_set _ _ _ (by rw [M0.out.len hlt]; exact HIN.out)
            · simp only [if_neg e, mk2]
          case measure => have := HIN.out; simp [intOf]; omega
        · obtain rfl : i = n k := by omega
          unfold row at hcl
          go_wp2_with fail
          go_roundw
          case rel =>
            refine ⟨k + 1, by omega, by go_num, HM2.out.congr fun j hj => ?_⟩
            by_cases e : j = k
            · subst e
              simp only [if_pos, mk2, mk1]
              rw [if_pos (by omega), List.drop_of_length_le (by rw [M0.out.len hlt]; exact Nat.le_refl _), List.append_nil]
            · simp only [if_neg e, mk2, mk1]
              by_cases e2 : j < k
              · rw [if_pos e2, if_pos (by omega)]
              · rw [if_neg e2, if_neg (by omega)]
          case measure => simp [intOf]; omega
    · obtain rfl : k = 2 := by omega
      have hM1 : Mem B L a n cp (allm n) w wr := HM.out.congr fun j hj => by unfold mk1 allm; rw [if_pos hj]
      have HM1 := hid hM1
      have HSZ := hid hM1.bel.size
      obtain ⟨i0, hi, hz0, hz1, hz2⟩ := info_parts infoS
      obtain ⟨i1, hi', hy0, hy1, hy2⟩ := info_parts infoE
      have HI := hid hi
      have HZ := hid hz2
      have HI1 := hid hi'
      have HZ1 := hid hy2
      have h22 : ¬ ((2 : Int) < 2) := by omega
      clear hM1 hi hz2 hi' hy2
      go_wp2_with (at_make; refine wpList_make_full _ rfl _ _ 55 rfl B 30 i0 (.slice none 0 0) 1 Try.underlying55 HI.out hz0 hz1 .i64 .i64 _ _ 2 rfl rfl rfl rfl (by rw [HZ.out]; omega) (by unfold maxLen; omega) (Nat.le_trans HBW.out HSZ.out) ?_; intro w1 hown hgrow)
      obtain ⟨G, hGe⟩ : ∃ G, wr.heap.size = G := ⟨_, rfl⟩
      have hLG : L < G := by rw [← hGe]; exact HM1.out.lt
      have hoG : ∀ k, k < 2 → (row a n cp k).ownBlock ≠ some G := fun k hk e => by
        have := own_lt (HM1.out.own k hk) e
        omega
      have hBG : B ≤ G := by rw [← hGe]; exact Nat.le_trans HBW.out HSZ.out
      have hM2 := HM1.out.grown (Nat.le_trans HBW.out HSZ.out) hgrow
      rw [hGe] at hown ⊢
      have hG0 : Grow B L G a n cp (fun j => mlb j (n j + 64)) (fun _ => .slice none 0 0) _ 0 w1 := ⟨hown, fun j hj => absurd hj (by omega), fun j hj => absurd hj (by omega), fun j hj => absurd hj (by omega), fun j hj => absurd hj (by omega), fun i j hi => absurd hi (by omega)⟩
      have HLG := hid hLG
      have HOG := hid hoG
      have HBG := hid hBG
      have HNG := hid (show w.heap.size ≤ G by rw [← hGe]; exact HSZ.out)
      have HM2 := hid hM2
      have HG0 := hid hG0
      clear hLG hoG hBG hM2 hG0 hown hgrow hGe
      go_loopw [6] (fun s wr => ∃ k : Nat, k ≤ 2 ∧ s = .int .i64 k ∧ Mem B L a n cp (allm n) w wr ∧ ∃ g gl, Grow B L G a n cp (fun j => mlb j (n j + 64)) g gl k wr) (fun s _ => 2 - (intOf s).toNat)
      case atStart => exact ⟨0, by omega, rfl, HM2.out, _, _, HG0.out⟩
      case round =>
        obtain ⟨k, hk, rfl, hm, g, gl, hg⟩ := hrel
        have HM := hid hm
        have HG := hid hg
        have hBwr := Nat.le_trans HBW.out hm.bel.size
        have HBWR := hid hBwr
        clear hm hg hBwr
        by_cases hlt : k < 2
        · have hlt' : (k : Int) < 2 := by omega
          have hcl := HM.out.cell k hlt
          have hnk := HNL.out k hlt
          unfold row at hcl
          have HOWK := hid (HM.out.own k hlt)
          have HCK : Hid (Cand w.heap.size L G a n cp g k (row a n cp k)) := hid ⟨fun i hi hik => T.out.far k i hlt hi (fun e => hik e.symm), fun j hj => (HG.out.far j hj k hlt (by omega)).symm, ⟨T.out.off k hlt, HOG.out k hlt⟩, fun q hq => Or.inl hq⟩
          go_wp2_with fail
          go_loopw [7, 8] (fun gg s wr => ∃ i : Nat, i ≤ 64 ∧ s = .int .i64 i ∧ Mem B L a n cp (allm n) w wr ∧ Grow B L G a n cp (fun j => mlb j (n j + 64)) g gl k wr ∧ Cand w.heap.size L G a n cp g k gg ∧ wr.ownsRow B 3 1 gg (n k + i) (Eb (mlb k (n k + i)))) (fun _ s _ => 64 - (intOf s).toNat)
          case atStart => exact ⟨0, by omega, rfl, HM.out, HG.out, HCK.out, by simpa [allm] using HOWK.out⟩
          case round =>
            obtain ⟨i, hi64, rfl, hm, hg, hc, ho⟩ := hrel
            have HMi := hid hm
            have HGi := hid hg
            have HCi := hid hc
            have HOi := hid ho
            have hcl := hm.cell k hlt
            unfold row at hcl
            have HBi := hid (Nat.le_trans HBW.out hm.bel.size)
            clear hm hg hc ho
            by_cases hin : i < 64
            · have hin' : (i : Int) < 64 := by omega
              have hw1 : IntKind.i64.wrap ((n k : Int) + (i : Int)) = ((n k + i : Nat) : Int) := by rw [i64_in _ (by omega)]; omega
              obtain ⟨hcv, hfo, hxx⟩ := mark_facts k (n k + i) (by omega) (by omega)
              go_wp2_with fail
              refine (mark_any k (n k + i) (by omega) (by omega) _).mono ?_
              rintro e w5 ⟨rfl, hw⟩
              obtain rfl := hw
              go_wp2_with (at_builtin; refine wpList_append_keeps _ rfl _ _ 30 rfl B 3 i1 (.int .i64 0) 8 Try.underlying30 HI1.out hy0 hy1 HZ1.out rfl u7 (n k + i) (Eb (mlb k (n k + i))) rfl (HOi.out.alloc _) ⟨wr.heap.size, 0, none⟩ 1 1 [.int .i64 (((mk k (n k + i)) : Nat) : Int)] rfl rfl (cell_one_new _ _ _) (by intro u hu; rw [List.mem_singleton] at hu; subst hu; rfl) (by unfold maxLen; omega) (by omega) (Nat.le_trans HBi.out (by simp)) ?_; intro v6 w6 h1 h2 h3 h4)
              go_roundw
              case rel =>
                have hst := append_step hlt (HMi.out.alloc HBi.out _) (HGi.out.alloc _) HCi.out (HOi.out.alloc _) (by omega) (Nat.le_trans HBi.out (by simp)) h2 h3 h4
                refine ⟨i + 1, by omega, by go_num, hst.1, hst.2.1, hst.2.2, ?_⟩
                rw [← Nat.add_assoc, mlb_succ, Eb_app]
                exact h1
              case measure => simp [intOf]; omega
            · obtain rfl : i = 64 := by omega
              obtain ⟨⟨v0, hv0⟩, hf0⟩ := HGi.out.cellOf hlt
              obtain ⟨ga, gc, rfl, _, _⟩ := own_form HOi.out
              go_wp2_with fail
              go_roundw
              case rel =>
                have hst := grow_store hlt (Nat.ne_of_lt HLG.out) HOG.out HBG.out HNG.out HMi.out HGi.out HCi.out HOi.out
                exact ⟨k + 1, by omega, by go_num, hst.1, _, _, hst.2⟩
              case measure => simp [intOf]; omega
        · obtain rfl : k = 2 := by omega
          have h22 : ¬ ((2 : Int) < 2) := by omega
          go_wp2_with fail
          -- all are looked at
          obtain ⟨wA, rfl⟩ : ∃ v, v = wr := ⟨_, rfl⟩
          go_loopw [9] (fun s wr => ∃ k : Nat, k ≤ 2 ∧ s = .int .i64 k ∧ Below wA.heap.size wA wr) (fun s _ => 2 - (intOf s).toNat)
          case atStart => exact ⟨0, by omega, rfl, Below.refl _ _⟩
          case round =>
            obtain ⟨k, hk, rfl, hb⟩ := hrel
            have HB := hid hb
            clear hb
            by_cases hlt : k < 2
            · have hlt' : (k : Int) < 2 := by omega
              obtain ⟨gb, gc, hgk, _, _⟩ := own_form (HG.out.own k hlt)
              have HGK := hid hgk
              clear hgk
              go_wp2_with fail
              go_loopw [10] (fun s wr => ∃ i : Nat, i ≤ n k + 64 ∧ s = .int .i64 i ∧ Below wA.heap.size wA wr) (fun s _ => n k + 64 - (intOf s).toNat)
              case atStart => exact ⟨0, by omega, rfl, HB.out⟩
              case round =>
                obtain ⟨i, hi, rfl, hb⟩ := hrel
                have HB2 := hid hb
                have hnk := HNL.out k hlt
                have hcl : wr.cell? ⟨L, k, none⟩ = some (.slice (a k) (n k) (cp k)) := by
                  rw [hb.cell (p := ⟨L, k, none⟩) HM.out.lt]; exact HM.out.cell k hlt
                have hcg : wr.cell? ⟨G, k, none⟩ = some (.slice gb (n k + 64) gc) := by
                  rw [hb.cell (p := ⟨G, k, none⟩) (own_lt HG.out.gs rfl), HG.out.gs.cellAt k (by omega), HG.out.got k hlt, HGK.out]
                have hsg : Sl wr (.slice gb (n k + 64) gc) (Eb (mlb k (n k + 64))) := by
                  have := Sl_below (Sl_of_own (HG.out.own k hlt)) hb (Nat.le_refl _)
                  rw [HGK.out] at this
                  exact this
                have hsl : Sl wr (.slice (a k) (n k) (cp k)) (Eb (mlb k (n k))) := Sl_below (Sl_of_own (HM.out.own k hlt)) hb (Nat.le_refl _)
                clear hb
                by_cases hin : i < n k + 64
                · have hin' : (i : Int) < (n k : Int) + 64 := by omega
                  obtain ⟨b1, o1, rfl, _, q1⟩ := Sl_cellE (k := i) hsg (by rw [mlb_len]; exact hin)
                  rw [mlb_get _ _ _ hin] at q1
                  by_cases h2 : i < n k
                  · have hd1 : decide ((i : Int) < (n k : Int)) = true := by simp; omega
                    have hd3 : decide (i < n k) = true := by simp; omega
                    have hlt1 : (i : Int) < (n k : Int) := by omega
                    obtain ⟨b2, o2, hab, _, q2⟩ := Sl_cellE (k := i) hsl (by rw [mlb_len]; exact h2)
                    rw [mlb_get _ _ _ h2] at q2
                    rw [hab] at hcl
                    have HAB := hid hab
                    have HI2 := hid hi
                    clear hsg hsl hab hi
                    obtain ⟨hcv, hfo, hxx⟩ := mark_facts k i (by omega) (by omega)
                    go_wp2_with fail
                    go_big_quiet (first | (go_at_call 51; refine Calls.quiet_of_same ((mark_any k i (by omega) (by omega) _).mono fun e w' h => ⟨h.1, h.2.symm⟩)))
                    go_wp2
                    go_roundw
                    case rel => exact ⟨i + 1, by omega, by go_num, HB2.out.trans ⟨rfl, rfl, rfl, Nat.le_refl _, fun _ _ => rfl⟩⟩
                    case measure => simp [intOf]; omega
                  · have hd1 : decide ((i : Int) < (n k : Int)) = false := by simp; omega
                    have hd3 : decide (i < n k) = false := by simp; omega
                    have HI2 := hid hi
                    clear hsg hsl hi
                    obtain ⟨hcv, hfo, hxx⟩ := mark_facts k i (by omega) (by omega)
                    go_wp2_with fail
                    go_big_quiet (first | (go_at_call 51; refine Calls.quiet_of_same ((mark_any k i (by omega) (by omega) _).mono fun e w' h => ⟨h.1, h.2.symm⟩)))
                    go_wp2
                    go_roundw
                    case rel => exact ⟨i + 1, by omega, by go_num, HB2.out.trans ⟨rfl, rfl, rfl, Nat.le_refl _, fun _ _ => rfl⟩⟩
                    case measure => simp [intOf]; omega
                · obtain rfl : i = n k + 64 := by omega
                  clear hsg hsl
                  go_wp2_with fail
                  go_roundw
                  case rel => exact ⟨k + 1, by omega, by go_num, HB2.out⟩
                  case measure => simp [intOf]; omega
            · obtain rfl : k = 2 := by omega
              have h22 : ¬ ((2 : Int) < 2) := by omega
              go_wp2_with fail
              have HMB := hid (HM.out.below HBWR.out HB.out)
              have hg0 : Grow B L G a n cp (fun j => mlb j (n j) ++ mlb (j + 2) 64) (fun _ => .slice none 0 0) gl 0 wr := ⟨own_below HG.out.gs HB.out (Nat.le_refl _), fun j hj => absurd hj (by omega), fun j hj => absurd hj (by omega), fun j hj => absurd hj (by omega), fun j hj => absurd hj (by omega), fun i j hi => absurd hi (by omega)⟩
              have HGB := hid hg0
              clear hg0
              go_loopw [11] (fun s wr => ∃ k : Nat, k ≤ 2 ∧ s = .int .i64 k ∧ Mem B L a n cp (allm n) w wr ∧ ∃ g gl, Grow B L G a n cp (fun j => mlb j (n j) ++ mlb (j + 2) 64) g gl k wr) (fun s _ => 2 - (intOf s).toNat)
              case atStart => exact ⟨0, by omega, rfl, HMB.out, _, _, HGB.out⟩
              case round =>
                obtain ⟨k, hk, rfl, hm, g2, gl2, hg⟩ := hrel
                have HM4 := hid hm
                have HG4 := hid hg
                have HB4 := hid (Nat.le_trans HBW.out hm.bel.size)
                clear hm hg
                by_cases hlt : k < 2
                · have hlt' : (k : Int) < 2 := by omega
                  obtain ⟨M, hMe⟩ : ∃ M, wr.heap.size = M := ⟨_, rfl⟩
                  have HME := hid hMe
                  have hrM : ∀ k, k < 2 → (row a n cp k).ownBlock ≠ some M := fun k hk e => by have := own_lt (HM4.out.own k hk) e; omega
                  have hLM : L ≠ M := by have := HM4.out.lt; omega
                  have hGM : G ≠ M := by have := own_lt HG4.out.gs (k := G) rfl; omega
                  have hgM : ∀ j, j < k → (g2 j).ownBlock ≠ some M := fun j hj e => by have := own_lt (HG4.out.own j hj) e; omega
                  have hBM : B ≤ M := by rw [← hMe]; exact HB4.out
                  have HRM := hid hrM
                  have HLM := hid hLM
                  have HGM := hid hGM
                  have HgM := hid hgM
                  have HBM := hid hBM
                  have HNM := hid (show w.heap.size ≤ M by rw [← hMe]; exact HM4.out.bel.size)
                  clear hMe hrM hLM hGM hgM hBM
                  go_wp2_with (at_make; refine wpList_make_full _ rfl _ _ 30 rfl B 3 i1 (.int .i64 0) 1 Try.underlying30 HI1.out hy0 hy1 .i64 .i64 _ _ 64 rfl rfl rfl rfl (by rw [HZ1.out]; omega) (by unfold maxLen; omega) HB4.out ?_; intro w1 hown hgrow)
                  rw [zeros_is, zeros_list, HME.out] at hown
                  rw [HME.out]
                  have HM5 := hid (HM4.out.grown HB4.out hgrow)
                  have HG5 := hid (HG4.out.grown hgrow)
                  have HO5 := hid hown
                  clear hown hgrow
                  go_loopw [13] (fun s wr => ∃ i : Nat, i ≤ 64 ∧ s = .int .i64 i ∧ Mem B L a n cp (allm n) w wr ∧ Grow B L G a n cp (fun j => mlb j (n j) ++ mlb (j + 2) 64) g2 gl2 k wr ∧ wr.ownsRow B 3 1 (.slice (some ⟨M, 0, none⟩) 64 64) 64 (Eb (mlb (k + 2) i ++ (List.replicate 64 0).drop i))) (fun s _ => 64 - (intOf s).toNat)
                  case atStart => exact ⟨0, by omega, rfl, HM5.out, HG5.out, by simpa [mlb] using HO5.out⟩
                  case round =>
                    obtain ⟨i, hi64, rfl, hm, hg, ho⟩ := hrel
                    have HMi := hid hm
                    have HGi := hid hg
                    have HOi := hid ho
                    have hnk := HNL.out k hlt
                    have hcl := hm.cell k hlt
                    unfold row at hcl
                    clear hm hg ho
                    by_cases hin : i < 64
                    · have hin' : (i : Int) < 64 := by omega
                      have hw1 : IntKind.i64.wrap ((k : Int) + 2) = ((k + 2 : Nat) : Int) := by rw [i64_in _ (by omega)]; omega
                      have hci : ∃ v, wr.cell? ⟨M, i, none⟩ = some v := by
                        rw [HOi.out.cellAt i (by omega)]
                        have : i < (Eb (mlb (k + 2) i ++ (List.replicate 64 0).drop i)).length := by rw [Eb_len]; simp [mlb]; omega
                        exact ⟨_, List.getElem?_eq_getElem this⟩
                      obtain ⟨v0, hv0⟩ := hci
                      have hf0 : wr.frozen? ⟨M, i, none⟩ = false := HOi.out.frozenAt i
                      obtain ⟨hcv, hfo, hxx⟩ := mark_facts (k + 2) i (by omega) (by omega)
                      go_wp2_with fail
                      refine (mark_any (k + 2) i (by omega) (by omega) _).mono ?_
                      rintro e w5 ⟨rfl, hw⟩
                      obtain rfl := hw
                      go_wp2_with fail
                      go_roundw
                      case rel =>
                        refine ⟨i + 1, by omega, by go_num, HMi.out.set HRM.out HLM.out HBM.out HNM.out _, HGi.out.set HgM.out HGM.out _, ?_⟩
                        have h8 := (HOi.out.stored i (.int .i64 (((mk (k + 2) i) : Nat) : Int))).1
                        rw [Eb_set, mlb_set _ _ _ (by simp; omega)] at h8
                        exact h8
                      case measure => simp [intOf]; omega
                    · obtain rfl : i = 64 := by omega
                      have HCK : Hid (Cand w.heap.size L G a n cp g2 k (row a n cp k)) := hid ⟨fun i hi hik => T.out.far k i hlt hi (fun e => hik e.symm), fun j hj => (HGi.out.far j hj k hlt (by omega)).symm, ⟨T.out.off k hlt, HOG.out k hlt⟩, fun q hq => Or.inl hq⟩
                      have HOWK := hid (HMi.out.own k hlt)
                      have HBi := hid (Nat.le_trans HBW.out HMi.out.bel.size)
                      have hmany : ∀ j u, (Eb (mlb (k + 2) 64))[j]? = some u → wr.cell? ((⟨M, 0, none⟩ : Addr).add j) = some u := by
                        have h7 := HOi.out
                        have e7 : (List.replicate 64 0).drop 64 = [] := by simp
                        rw [e7, List.append_nil] at h7
                        exact h7.cells rfl
                      have HMANY := hid hmany
                      clear hmany
                      go_wp2_with (at_builtin; refine wpList_append_keeps _ rfl _ _ 30 rfl B 3 i1 (.int .i64 0) 8 Try.underlying30 HI1.out hy0 hy1 HZ1.out rfl (row a n cp k) (n k) (Eb (allm n k)) rfl HOWK.out ⟨M, 0, none⟩ 64 64 (Eb (mlb (k + 2) 64)) rfl (by rw [Eb_len, mlb_len]) HMANY.out (Eb_one _) (by unfold maxLen; omega) (by omega) HBi.out ?_; intro v6 w6 h1 h2 h3 h4; obtain ⟨ga, gc, rfl, _, _⟩ := own_form h1; have hst := append_step hlt HMi.out HGi.out HCK.out HOWK.out (Nat.le_refl _) HBi.out h2 h3 h4; obtain ⟨⟨v0, hv0⟩, hf0⟩ := hst.2.1.cellOf hlt; have HST := hid hst; have H1 := hid h1; clear hst h1 h2 h3 h4)
                      go_roundw
                      case rel =>
                        have hst := grow_store hlt (Nat.ne_of_lt HLG.out) HOG.out HBG.out HNG.out HST.out.1 HST.out.2.1 HST.out.2.2 (by rw [Eb_app]; exact H1.out)
                        exact ⟨k + 1, by omega, by go_num, hst.1, _, _, hst.2⟩
                      case measure => simp [intOf]; omega
                · obtain rfl : k = 2 := by omega
                  have h22 : ¬ ((2 : Int) < 2) := by omega
                  go_wp2_with fail
                  -- and looked at again
                  obtain ⟨wE, rfl⟩ : ∃ v, v = wr := ⟨_, rfl⟩
                  go_loopw [14] (fun s wr => ∃ k : Nat, k ≤ 2 ∧ s = .int .i64 k ∧ Below wE.heap.size wE wr) (fun s _ => 2 - (intOf s).toNat)
                  case atStart => exact ⟨0, by omega, rfl, Below.refl _ _⟩
                  case round =>
                    obtain ⟨k, hk, rfl, hb⟩ := hrel
                    have HBE := hid hb
                    clear hb
                    by_cases hlt : k < 2
                    · have hlt' : (k : Int) < 2 := by omega
                      obtain ⟨gb, gc, hgk, _, _⟩ := own_form (HG4.out.own k hlt)
                      have HGK := hid hgk
                      clear hgk
                      go_wp2_with fail
                      go_loopw [15] (fun s wr => ∃ i : Nat, i ≤ n k ∧ s = .int .i64 i ∧ Below wE.heap.size wE wr) (fun s _ => n k - (intOf s).toNat)
                      case atStart => exact ⟨0, by omega, rfl, HBE.out⟩
                      case round =>
                        obtain ⟨i, hi, rfl, hb⟩ := hrel
                        have HB2 := hid hb
                        have hnk := HNL.out k hlt
                        have hcl : wr.cell? ⟨L, k, none⟩ = some (.slice (a k) (n k) (cp k)) := by
                          rw [hb.cell (p := ⟨L, k, none⟩) HM4.out.lt]; exact HM4.out.cell k hlt
                        have hcg : wr.cell? ⟨G, k, none⟩ = some (.slice gb (n k + 64) gc) := by
                          rw [hb.cell (p := ⟨G, k, none⟩) (own_lt HG4.out.gs rfl), HG4.out.gs.cellAt k (by omega), HG4.out.got k hlt, HGK.out]
                        have hsg : Sl wr (.slice gb (n k + 64) gc) (Eb (mlb k (n k) ++ mlb (k + 2) 64)) := by
                          have := Sl_below (Sl_of_own (HG4.out.own k hlt)) hb (Nat.le_refl _)
                          rw [HGK.out] at this
                          exact this
                        have hsl : Sl wr (.slice (a k) (n k) (cp k)) (Eb (mlb k (n k))) := Sl_below (Sl_of_own (HM4.out.own k hlt)) hb (Nat.le_refl _)
                        clear hb
                        by_cases hin : i < n k
                        · have hin' : (i : Int) < (n k : Int) := by omega
                          have hin2 : (i : Int) < (n k : Int) + 64 := by omega
                          obtain ⟨b1, o1, rfl, _, q1⟩ := Sl_cellE (k := i) hsg (by rw [List.length_append, mlb_len]; omega)
                          rw [List.getElem_append_left (by rw [mlb_len]; exact hin), mlb_get _ _ _ hin] at q1
                          obtain ⟨b2, o2, hab, _, q2⟩ := Sl_cellE (k := i) hsl (by rw [mlb_len]; exact hin)
                          rw [mlb_get _ _ _ hin] at q2
                          rw [hab] at hcl
                          have HAB := hid hab
                          have HI2 := hid hi
                          clear hsg hsl hab hi
                          obtain ⟨hcv, hfo, hxx⟩ := mark_facts k i (by omega) (by omega)
                          go_wp2_with fail
                          go_big_quiet (first | (go_at_call 51; refine Calls.quiet_of_same ((mark_any k i (by omega) (by omega) _).mono fun e w' h => ⟨h.1, h.2.symm⟩)))
                          go_wp2
                          go_roundw
                          case rel => exact ⟨i + 1, by omega, by go_num, HB2.out.trans ⟨rfl, rfl, rfl, Nat.le_refl _, fun _ _ => rfl⟩⟩
                          case measure => simp [intOf]; omega
                        · obtain rfl : i = n k := by omega
                          clear hsg hsl
                          go_wp2_with fail
                          go_roundw
                          case rel => exact ⟨k + 1, by omega, by go_num, HB2.out⟩
                          case measure => simp [intOf]; omega
                    · obtain rfl : k = 2 := by omega
                      have h22 : ¬ ((2 : Int) < 2) := by omega
                      go_wp2_with fail
                      go_ret
                      exact ⟨rfl, HM4.out.bel.trans (HBE.out.mono HB4.out), fun q hq hr => by rw [HBE.out.block q (Nat.lt_of_lt_of_le hq HM4.out.bel.size)]; exact HM4.out.prot q hq hr⟩
end Go.Proofs.Ytnaogcpcaabbhaa.I
