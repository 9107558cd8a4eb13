/- The document's Turn twice: the turn of a turn. -/
import Derived.Test.YtffkegfhnlkonaaDoorTurns
import Derived.Deep.RegionHeld3
import Derived.Deep.MidRow
namespace Go.Proofs.YtffkegfhnlkonaaDoor
open Go.RowKit CrcPlain

/-- the first k cells of the twice turn, the others zero -/
def half (t : Nat → BitVec 32) (k : Nat) : Nat → BitVec 32 := fun i => if i < k then ofTo t (t i) 32 else 0#32
/-- k cells written by f, the others zero -/
def upto (f : Nat → BitVec 32) (k : Nat) : Nat → BitVec 32 := fun i => if i < k then f i else 0#32

/-- the memory of a function that fills a turn: the block at 'b' -/
structure Fill (f : Nat → BitVec 32) (b k : Nat) (w : World) : Prop where
  hu : w.rangeAt b 0 (A32 (upto f k)).toList
  hv : w.there b 0 32

theorem A32_list_get (t : Nat → BitVec 32) (i : Nat) (v : Value) : (A32 t).toList[i]? = some v ↔ i < 32 ∧ v = .int .u32 (J (t i)) := by
  rw [Array.getElem?_toList]
  by_cases h : i < 32
  · rw [A32_get t i h]; simp [h, eq_comm]
  · rw [Array.getElem?_eq_none (by rw [A32_size]; omega)]; simp [h]

theorem Fill.store {f : Nat → BitVec 32} {b k : Nat} {w : World} (h : Fill f b k w) (hk : k < 32) : Fill f b (k + 1) (w.setCell ⟨b, k, none⟩ (.int .u32 (J (f k)))) := by
  refine ⟨fun j v hv => ?_, fun j hj => ?_⟩
  · obtain ⟨hj, rfl⟩ := (A32_list_get _ _ _).1 hv
    obtain ⟨u, hu⟩ := Option.isSome_iff_exists.1 (h.hv j hj).1
    by_cases e : j = k
    · subst e
      simp only [Nat.zero_add] at hu ⊢
      rw [World.cell?_setCell_same _ _ _ hu]
      simp [upto]
    · rw [World.cell?_setCell_other _ _ _ _ (by intro c; injection c with _ c2; omega)]
      have := h.hu j _ ((A32_list_get _ _ _).2 ⟨hj, rfl⟩)
      rw [this]
      have : upto f (k + 1) j = upto f k j := by
        unfold upto
        by_cases h1 : j < k
        · rw [if_pos h1, if_pos (by omega)]
        · rw [if_neg h1, if_neg (by omega)]
      rw [this]
  · obtain ⟨u, hu⟩ := Option.isSome_iff_exists.1 (h.hv j hj).1
    refine ⟨?_, by rw [World.frozen?_setCell]; exact (h.hv j hj).2⟩
    by_cases e : (⟨b, k, none⟩ : Addr) = ⟨b, 0 + j, none⟩
    · rw [← e] at hu ⊢
      rw [World.cell?_setCell_same _ _ _ hu]; rfl
    · rw [World.cell?_setCell_other _ _ _ _ e, hu]; rfl

theorem range_below {w w' : World} {B b o : Nat} {cs : List Value} (h : w.rangeAt b o cs) (hb : Below B w w') (hB : b < B) : w'.rangeAt b o cs := fun j v hv => by
  rw [hb.cell (p := ⟨b, o + j, none⟩) hB]; exact h j v hv
theorem there_below {w w' : World} {B b o n : Nat} (h : w.there b o n) (hb : Below B w w') (hB : b < B) : w'.there b o n := fun j hj => by
  rw [hb.cell (p := ⟨b, o + j, none⟩) hB, hb.frozen (p := ⟨b, o + j, none⟩) hB]; exact h j hj
theorem Fill.below {f : Nat → BitVec 32} {b k B : Nat} {w w' : World} (h : Fill f b k w) (hb : Below B w w') (hB : b < B) : Fill f b k w' := ⟨range_below h.hu hb hB, there_below h.hv hb hB⟩

theorem zero_A32 (f : Nat → BitVec 32) : A32 (upto f 0) = Array.replicate 32 (.int .u32 0) := by
  have : upto f 0 = fun _ => 0#32 := by funext i; simp [upto]
  rw [this]; rfl

theorem range_alloc (w : World) (cs : Array Value) (ty : TypeId) (b : Nat) (hb : b = w.heap.size) : (w.alloc (.cells cs ty)).rangeAt b 0 cs.toList := fun j v hv => by
  subst hb
  rw [World.cell?_alloc_at _ _ _ _ rfl]
  rw [Array.getElem?_toList] at hv
  simpa using hv
theorem there_alloc (w : World) (cs : Array Value) (ty : TypeId) (b n : Nat) (hb : b = w.heap.size) (hn : n = cs.size) : (w.alloc (.cells cs ty)).there b 0 n := fun j hj => by
  subst hb
  refine ⟨?_, World.frozen?_alloc_new _ _ _ _⟩
  rw [World.cell?_alloc_at _ _ _ _ rfl]; simp; omega

theorem info47 : (Tryd.prog.info? 47).map (·.size) = some 32 := by kernel_rfl
theorem under47 : ∃ d, Tryd.prog.underlying 47 = some d ∧ d.isRow = true := ⟨_, Tryd.underlying47, rfl⟩
theorem A32_one (t : Nat → BitVec 32) : ∀ v ∈ (A32 t).toList, v.oneCell' = true := by
  intro v hv
  obtain ⟨i, hi⟩ := List.mem_iff_getElem?.1 hv
  obtain ⟨_, rfl⟩ := (A32_list_get _ _ _).1 hi
  rfl
theorem A32_load (t : Nat → BitVec 32) (b : Nat) (w : World) (h : w.rangeAt b 0 (A32 t).toList) : (Instr.loadAt 47 (.pointer (some ⟨b, 0, none⟩))).run Tryd.prog w = .ok (.agg (A32 t)) w := by
  have := run_loadAt_mid (P := Tryd.prog) w b 0 47 (A32 t).toList _ h Tryd.underlying47 rfl (by rw [info47]; simp [A32_size])
  simpa using this

structure TR (t : Nat → BitVec 32) (w : World) (k : Nat) (wr : World) : Prop where
  hb : Below w.heap.size w wr
  hz : w.heap.size + 3 ≤ wr.heap.size
  ht : wr.rangeAt w.heap.size 0 (A32 t).toList
  hr : wr.there (w.heap.size + 1) 0 32
  hf : Fill (fun i => ofTo t (t i) 32) (w.heap.size + 1 + 1) k wr

theorem TR.below {t : Nat → BitVec 32} {w : World} {k : Nat} {wr w' : World} (h : TR t w k wr) (hb : Below wr.heap.size wr w') : TR t w k w' := by
  have hz := h.hz
  exact ⟨h.hb.trans (hb.mono (by omega)), Nat.le_trans h.hz hb.size, range_below h.ht hb (by omega), there_below h.hr hb (by omega), h.hf.below hb (by omega)⟩
theorem TR.drew {t : Nat → BitVec 32} {w : World} {k : Nat} {wr : World} (h : TR t w k wr) : TR t w k wr.drew := h.below (Below.refl _ _).drew
theorem TR.store {t : Nat → BitVec 32} {w : World} {k : Nat} {wr : World} (h : TR t w k wr) (hk : k < 32) : TR t w (k + 1) (wr.setCell ⟨w.heap.size + 1 + 1, k, none⟩ (.int .u32 (J (ofTo t (t k) 32)))) := by
  refine ⟨h.hb.setCell (by show _ ≤ w.heap.size + 1 + 1; omega) _, by simpa [World.setCell] using h.hz, ?_, ?_, h.hf.store hk⟩
  · exact range_below (B := w.heap.size + 1 + 1) h.ht ((Below.refl _ _).setCell (p := ⟨w.heap.size + 1 + 1, k, none⟩) (Nat.le_refl _) _) (by omega)
  · exact there_below (B := w.heap.size + 1 + 1) h.hr ((Below.refl _ _).setCell (p := ⟨w.heap.size + 1 + 1, k, none⟩) (Nat.le_refl _) _) (by omega)

theorem TR.start (t : Nat → BitVec 32) (w : World) (Y Z : Array Value) (hY : Y.size = 32) (hZ : Z = A32 (upto (fun i => ofTo t (t i) 32) 0)) :
    TR t w 0 (((w.alloc (.cells (A32 t) 47)).alloc (.cells Y 47)).alloc (.cells Z 47)) := by
  subst hZ
  refine ⟨(((Below.refl _ _).alloc (Nat.le_refl _) _).alloc (by simp) _).alloc (by simp; omega) _, by simp, ?_, ?_, ?_, ?_⟩
  · exact World.rangeAt_alloc (World.rangeAt_alloc (range_alloc w (A32 t) 47 _ rfl) _) _
  · exact World.there_alloc (there_alloc (w.alloc (.cells (A32 t) 47)) Y 47 _ _ (by simp) hY.symm) _
  · exact range_alloc _ _ 47 _ (by simp)
  · exact there_alloc _ _ 47 _ _ (by simp) (A32_size _).symm

theorem TRS {t : Nat → BitVec 32} {w wr : World} {k' : Nat} (k : Nat) (h : TR t w k' wr) (hk : k < 32) : wr.rangeAt w.heap.size 0 (A32 t).toList ∧ wr.cell? ⟨w.heap.size, k, none⟩ = some (.int .u32 (J (t k))) :=
  ⟨h.ht, by simpa using h.ht k _ ((A32_list_get _ _ _).2 ⟨hk, rfl⟩)⟩
theorem TRU {t : Nat → BitVec 32} {w wr : World} {k : Nat} (h : TR t w k wr) (hk : k < 32) : (∃ u, wr.cell? ⟨w.heap.size + 1 + 1, k, none⟩ = some u) ∧ wr.frozen? ⟨w.heap.size + 1 + 1, k, none⟩ = false := by
  have h0 := h.hf.hv k hk
  rw [Nat.zero_add] at h0
  exact ⟨Option.isSome_iff_exists.1 h0.1, h0.2⟩

theorem results_cell {P : Program} {fn : Func} {tmps : Array Value} {a t : Nat} {p : Addr} {v : Value} {w : World} (hf : fn.results = #[.cell a t]) (ht : tmps.getD a undef = .pointer (some p)) (hl : (loadVar t p).run P w = .ok v w) :
    (results fn tmps).run P w = .ok v w := by
  simp only [results, hf, Array.mapM_eq_mapM_toList, List.mapM_cons, List.mapM_nil, ht, asAddr, Sem.run_bind, Sem.run_pure, pure_bind]
  generalize loadVar t p = L at hl ⊢
  simp [hl]

theorem below_setCells {B b : Nat} {w0 : World} (hB : B ≤ b) : ∀ (vs : List Value) (o : Nat) (w : World), Below B w0 w → Below B w0 (w.setCells b o vs)
  | [], _, _, h => h
  | v :: r, o, w, h => by
    rw [World.setCells]
    exact below_setCells hB r (o + 1) _ (h.setCell (p := ⟨b, o, none⟩) hB _)

theorem A32_congr {f g : Nat → BitVec 32} (h : ∀ i, i < 32 → f i = g i) : A32 f = A32 g := by
  apply Array.ext_getElem?
  intro i
  by_cases hi : i < 32
  · rw [A32_get f i hi, A32_get g i hi, h i hi]
  · rw [Array.getElem?_eq_none (by rw [A32_size]; omega), Array.getElem?_eq_none (by rw [A32_size]; omega)]
theorem A32_upto (f : Nat → BitVec 32) : A32 (upto f 32) = A32 f := A32_congr fun i hi => by unfold upto; rw [if_pos hi]

set_option maxRecDepth 6000 in
theorem twice_any (t : Nat → BitVec 32) (w : World) : Calls Tryd.prog 31 #[.agg (A32 t)] w fun e w' => e = .returned (.agg (A32 fun i => ofTo t (t i) 32)) ∧ Below w.heap.size w w' := by
  go_enter Tryd.func31, Tryd.ntmps31
  go_wp2_with fail
  go_loopw [4] (fun i wr => ∃ k : Nat, k ≤ 32 ∧ i = .int .i64 k ∧ TR t w k wr) (fun i _ => 32 - (intOf i).toNat)
  case atStart =>
    refine ⟨0, by omega, rfl, ?_⟩
    exact TR.start t w _ _ rfl rfl
  case round =>
    obtain ⟨k, hk, rfl, hR⟩ := hrel
    by_cases hlt : k < 32
    · have hlt' : (k : Int) < 32 := by omega
      have hun := Tryd.underlying47
      have hin : (Tryd.prog.info? 47).map (·.size) = some (A32 t).toList.length := by rw [info47]; simp [A32_size]
      obtain ⟨u0, hu0⟩ := Option.isSome_iff_exists.1 (hR.hf.hv k hlt).1
      have hf0 := (hR.hf.hv k hlt).2
      rw [Nat.zero_add] at hu0 hf0
      have HR := hid hR
      clear hR
      go_wp2
      go_region_held3 (fun w' => w'.rangeAt w.heap.size 0 (A32 t).toList ∧ w'.cell? ⟨w.heap.size, k, none⟩ = some (.int .u32 (J (t k)))) (first | exact TRS k HR.out.drew hlt | exact TRS k HC.out hlt | exact TRS k (HC.out.store hlt) hlt) (first | (go_at_call 30; refine (of_any t (t k) _).mono ?_; rintro e w' ⟨rfl, hb⟩; have HC := hid (HR.out.drew.below hb); obtain ⟨⟨v0, hc0⟩, hf0⟩ := TRU HC.out hlt))
      go_wp2
      go_roundw
      case rel => exact ⟨k + 1, by omega, by go_num, HC.out.store hlt⟩
      case measure => simp [intOf]; omega
    · obtain rfl : k = 32 := by omega
      have hall : upto (fun i => ofTo t (t i) 32) 32 = upto (fun i => ofTo t (t i) 32) 32 := rfl
      have HR := hid hR
      clear hR hall
      go_wp2_with (first
        | refine wpList_load_mid rfl 47 _ rfl (w.heap.size + 1 + 1) 0 rfl (A32 (upto (fun i => ofTo t (t i) 32) 32)).toList _ HR.out.hf.hu Tryd.underlying47 rfl (by rw [info47]; simp [A32_size]) ?_
        | refine wpList_store_mid rfl 47 _ _ rfl (w.heap.size + 1) 0 (A32 (upto (fun i => ofTo t (t i) 32) 32)) rfl rfl (by rw [A32_size]; exact HR.out.hr) (by rw [info47]; simp [A32_size]) (all_oneCell_toArray (A32_one _)) ?_)
      refine bodyPost_ret (v := .agg (A32 fun i => ofTo t (t i) 32)) (results_cell (a := 2) (t := 47) (p := ⟨w.heap.size + 1, 0, none⟩) rfl rfl ?_) rfl ⟨rfl, below_setCells (by omega) _ _ _ HR.out.hb⟩
      have h9 := World.rangeAt_setCells_same wr (w.heap.size + 1) 0 (A32 (upto (fun i => ofTo t (t i) 32) 32)).toList (by rw [Array.length_toList, A32_size]; exact HR.out.hr)
      have h8 := run_loadVar_mid (P := Tryd.prog) _ _ _ 47 _ _ h9 Tryd.underlying47 rfl (by rw [info47]; simp [A32_size])
      rw [A32_upto] at h8 ⊢
      simpa using h8
end Go.Proofs.YtffkegfhnlkonaaDoor
