/- What all texts of this seat use: rows as cells, float operations, small functions. -/
import Derived.Test.YtnaogcpcaabbhaaBody
import Derived.Test.YtnaogcpcaabbhaaCheckPlain
import Derived.RegionTactic
import Derived.Maps.AppendAt
namespace Go.Proofs.Ytnaogcpcaabbhaa
open Go.RowKit FloatPlain

/-- a row's cells -/
def Fb (q : List Nat) : List Value := q.map (Value.float .f64)
theorem Fb_len (q : List Nat) : (Fb q).length = q.length := by simp [Fb]
theorem Fb_get {q : List Nat} {k : Nat} (h : k < q.length) : (Fb q)[k]? = some (.float .f64 (at0 q k)) := by
  rw [at0_lt h]; simp [Fb, h]
theorem Fb_one (q : List Nat) : ∀ u ∈ Fb q, u.oneCell' = true := by
  intro u hu
  simp only [Fb, List.mem_map] at hu
  obtain ⟨b, _, rfl⟩ := hu
  rfl
theorem Fb_set (q : List Nat) (k x : Nat) : (Fb q).set k (.float .f64 x) = Fb (q.set k x) := by simp [Fb, List.map_set]
theorem Fb_app (a b : List Nat) : Fb (a ++ b) = Fb a ++ Fb b := by simp [Fb]

theorem mul_run {a b c : Nat} (h : Ieee.double.mul a b = some c) (t : TypeId) (w : World) : (binOp .mul t (.float .f64 a) (.float .f64 b)).run Try.prog w = .ok (.float .f64 c) w := run_float_arith w .mul t .f64 a b c h
theorem add_run {a b c : Nat} (h : Ieee.double.add a b = some c) (t : TypeId) (w : World) : (binOp .add t (.float .f64 a) (.float .f64 b)).run Try.prog w = .ok (.float .f64 c) w := run_float_arith w .add t .f64 a b c h
theorem sub_run {a b c : Nat} (h : Ieee.double.sub a b = some c) (t : TypeId) (w : World) : (binOp .sub t (.float .f64 a) (.float .f64 b)).run Try.prog w = .ok (.float .f64 c) w := run_float_arith w .sub t .f64 a b c h
theorem store_run (a : Addr) (x : Nat) (w : World) : (store a (.float .f64 x)).run Try.prog w = stored Try.prog w a (.float .f64 x) .plain := run_store Try.prog w a _ _ rfl

theorem info33 : (Try.prog.info? 33).map (fun i => (i.zero, i.size, i.bytes)) = some (some (.float .f64 0), 1, 8) := by kernel_rfl
theorem info3 : (Try.prog.info? 3).map (fun i => (i.zero, i.size, i.bytes)) = some (some (.int .i64 0), 1, 8) := by kernel_rfl
theorem info48 : (Try.prog.info? 48).map (fun i => (i.zero, i.size, i.bytes)) = some (some (.agg #[.float .f64 0, .slice none 0 0]), 2, 32) := by kernel_rfl
theorem info_parts {i : Option TypeInfo} {z : Option Value} {s b : Nat} (h : i.map (fun i => (i.zero, i.size, i.bytes)) = some (z, s, b)) : ∃ i0, i = some i0 ∧ i0.zero = z ∧ i0.size = s ∧ i0.bytes = b := by
  cases i with
  | none => cases h
  | some i0 => simp only [Option.map_some, Option.some.injEq, Prod.mk.injEq] at h; exact ⟨i0, rfl, h.1, h.2.1, h.2.2⟩

theorem addr_add (b off j : Nat) : (⟨b, off, none⟩ : Addr).add j = ⟨b, off + j, none⟩ := by
  unfold Addr.add; split <;> simp_all

theorem Sl_partsF {w : World} {v : Value} {l : List Nat} (h : Sl w v (Fb l)) : ∃ a c, v = .slice a l.length c ∧ l.length ≤ c ∧ c ≤ maxLen ∧ (a = none → l.length = 0 ∧ c = 0) := by
  obtain ⟨a, c, rfl, hc, hcm, h1⟩ := h
  rw [Fb_len] at hc ⊢
  refine ⟨a, c, rfl, hc, hcm, ?_⟩
  rintro rfl
  rcases h1 with ⟨h0, rfl⟩ | ⟨b, off, h9, _⟩
  · exact ⟨by omega, rfl⟩
  · cases h9

theorem Sl_cellF {w : World} {a : Option Addr} {n c k : Nat} {l : List Nat} (h : Sl w (.slice a n c) (Fb l)) (hk : k < l.length) :
    ∃ b off, a = some ⟨b, off, none⟩ ∧ b < w.heap.size ∧ w.cell? ⟨b, off + k, none⟩ = some (.float .f64 (at0 l k)) := by
  obtain ⟨a', c', e, _, _, h9⟩ := h
  injection e with e1 e2 e3
  subst e1
  rcases h9 with ⟨h9, _⟩ | ⟨b, off, rfl, hb, hcell⟩
  · have := Fb_len l
    rw [h9] at this
    simp at this
    omega
  · exact ⟨b, off, rfl, hb, hcell k _ (Fb_get hk)⟩

theorem below_drewN {B : Nat} {a w : World} (h : Below B a w) (n : Nat) : Below B a (w.drewN n) := h.trans ⟨rfl, rfl, rfl, Nat.le_refl _, fun _ _ => rfl⟩

/-! classes as memory shows them -/
def Fl (w : World) (v : Value) (fs : List (Nat × List Nat)) : Prop :=
  ∃ a cap, v = .slice a fs.length cap ∧ fs.length ≤ cap ∧ cap ≤ maxLen ∧ (a = none → cap = 0) ∧ (fs = [] ∨ ∃ b off, a = some ⟨b, off, none⟩ ∧ b < w.heap.size ∧
    ∀ j f, fs[j]? = some f → ∃ cv, w.cell? ⟨b, off + j * 2, none⟩ = some (.float .f64 f.1) ∧ w.cell? ⟨b, off + j * 2 + 1, none⟩ = some cv ∧ Sl w cv (Fb f.2))

theorem Fl_below {w w' : World} {B : Nat} {v : Value} {fs : List (Nat × List Nat)} (h : Fl w v fs) (hb : Below B w w') (hB : w.heap.size ≤ B) : Fl w' v fs := by
  obtain ⟨a, cap, hv, hc, hm, hn, h⟩ := h
  refine ⟨a, cap, hv, hc, hm, hn, ?_⟩
  rcases h with h | ⟨b, off, ha, hlt, hcell⟩
  · exact Or.inl h
  · refine Or.inr ⟨b, off, ha, by have := hb.size; omega, fun j f hj => ?_⟩
    obtain ⟨cv, c1, c2, c3⟩ := hcell j f hj
    refine ⟨cv, ?_, ?_, Sl_below c3 hb hB⟩
    · rw [hb.cell (p := ⟨b, off + j * 2, none⟩) (by show b < B; omega)]; exact c1
    · rw [hb.cell (p := ⟨b, off + j * 2 + 1, none⟩) (by show b < B; omega)]; exact c2

theorem Fl_cell {w : World} {a : Option Addr} {n c k : Nat} {fs : List (Nat × List Nat)} (h : Fl w (.slice a n c) fs) (hk : k < fs.length) :
    ∃ b off cv, a = some ⟨b, off, none⟩ ∧ b < w.heap.size ∧ w.cell? ⟨b, off + k * 2, none⟩ = some (.float .f64 (prA fs k)) ∧ w.cell? ⟨b, off + k * 2 + 1, none⟩ = some cv ∧ Sl w cv (Fb (csA fs k)) := by
  obtain ⟨a', c', e, _, _, _, h9⟩ := h
  injection e with e1 e2 e3
  subst e1
  rcases h9 with h9 | ⟨b, off, rfl, hb, hcell⟩
  · rw [h9] at hk; simp at hk
  · obtain ⟨cv, c1, c2, c3⟩ := hcell k _ (List.getElem?_eq_getElem hk)
    exact ⟨b, off, cv, rfl, hb, by rw [prA_get hk]; exact c1, c2, by rw [csA_get hk]; exact c3⟩

theorem Fl_parts {w : World} {v : Value} {fs : List (Nat × List Nat)} (h : Fl w v fs) : ∃ a c, v = .slice a fs.length c ∧ fs.length ≤ c ∧ c ≤ maxLen ∧ (a = none → c = 0) := by
  obtain ⟨a, c, rfl, hc, hcm, h0, _⟩ := h
  exact ⟨a, c, rfl, hc, hcm, h0⟩

/-! small functions -/
theorem within_any (x lo hi : Nat) (w : World) : Calls Try.prog 36 #[.float .f64 x, .float .f64 lo, .float .f64 hi] w fun e w' => e = .returned (.bool (withinB x lo hi)) ∧ w = w' := by
  obtain ⟨g1, h1⟩ : ∃ b, (FloatKind.f64.format.order x lo == some .gt || FloatKind.f64.format.order x lo == some .eq) = b := ⟨_, rfl⟩
  obtain ⟨g2, h2⟩ : ∃ b, (FloatKind.f64.format.order x hi == some .lt || FloatKind.f64.format.order x hi == some .eq) = b := ⟨_, rfl⟩
  have h : withinB x lo hi = (g1 && g2) := by subst h1 h2; rfl
  rw [h]
  clear h
  cases g1 <;> cases g2
  all_goals
    go_enter Try.func36, Try.ntmps36
    go_wp2_with fail
    go_ret
    exact ⟨rfl, rfl⟩

def ninf : Nat := 18442240474082181120
theorem inf_any (w : World) : Calls Try.prog 52 #[.int .i64 (-1)] w fun e w' => e = .returned (.float .f64 ninf) ∧ w = w' := by
  have hb := real_bits
  go_enter Try.func52, Try.ntmps52
  go_wp2_with fail
  go_ret
  exact ⟨rfl, rfl⟩

theorem write_lt (d : Ieee.Datum) : Ieee.double.write d < 18446744073709551616 := Ieee.Format.write_lt Ieee.double d
theorem intW_lt (n : Int) : intW n < 18446744073709551616 := write_lt _
theorem conv_int_real (n : Int) (w : World) : (convert 3 33 (.int .i64 n)).run Try.prog w = .ok (.float .f64 (intW n)) w :=
  run_convert_int_float w 3 33 .i64 .f64 n (by rw [Try.underlying3]; rfl) Try.underlying33
theorem conv_i64_real (n : Int) (w : World) : (convert 2 33 (.int .i64 n)).run Try.prog w = .ok (.float .f64 (intW n)) w :=
  run_convert_int_float w 2 33 .i64 .f64 n (by rw [Try.underlying2]; rfl) Try.underlying33

/-- the greater float, as the builtin tells it -/
theorem run_fmax (x y z : Nat) (ho : (Ieee.double.order x y = some .lt ∧ z = y) ∨ (Ieee.double.order x y = some .gt ∧ z = x) ∨ (Ieee.double.order x y = some .eq ∧ Pos x ∧ z = x)) (ts : Array TypeId) (t : TypeId) (w : World) :
    (Builtin.max_ ts t #[.float .f64 x, .float .f64 y]).run Try.prog w = .ok (.float .f64 z) w := by
  have e : FloatKind.f64.format.order x y = Ieee.double.order x y := rfl
  rcases ho with ⟨h, rfl⟩ | ⟨h, rfl⟩ | ⟨h, hp, rfl⟩
  · simp [Builtin.max_, Builtin.max2, e, h]
  · simp [Builtin.max_, Builtin.max2, e, h]
  · obtain ⟨m, q, hr, _⟩ := read_fin z hp.fin
    rw [hp.neg] at hr
    have hd : FloatKind.f64.decode z = Ieee.double.read z := rfl
    have hn : (FloatKind.f64.decode z).neg = false := by rw [hd, hr]; rfl
    simp [Builtin.max_, Builtin.max2, e, h, hn]

theorem order_pos {a b : Nat} (ha : Pos a) (hb : Pos b) : (a < b → Ieee.double.order a b = some .lt) ∧ (a = b → Ieee.double.order a b = some .eq) ∧ (b < a → Ieee.double.order a b = some .gt) := by
  rw [order_fin a b ha.fin hb.fin, ha.num, hb.num]
  unfold compare instOrdInt compareOfLessAndEq
  dsimp only
  refine ⟨fun h => ?_, fun h => ?_, fun h => ?_⟩
  · have := val_lt h
    rw [if_pos (by omega)]
  · subst h
    rw [if_neg (by omega), if_pos rfl]
  · have := val_lt h
    rw [if_neg (by omega), if_neg (by omega)]

theorem fmax_pos {a b : Nat} (ha : Pos a) (hb : Pos b) (ts : Array TypeId) (t : TypeId) (w : World) :
    (Builtin.max_ ts t #[.float .f64 a, .float .f64 b]).run Try.prog w = .ok (.float .f64 (max a b)) w := by
  apply run_fmax
  obtain ⟨o1, o2, o3⟩ := order_pos ha hb
  rcases Nat.lt_trichotomy a b with h | h | h
  · left; exact ⟨o1 h, by omega⟩
  · right; right; exact ⟨o2 h, ha, by omega⟩
  · right; left; exact ⟨o3 h, by omega⟩

theorem ninf_inf : FloatPlain.Inf ninf ∧ FloatPlain.neg ninf = true := by
  constructor
  · unfold FloatPlain.Inf ninf inf; omega
  · decide
theorem fmax_ninf {b : Nat} (hb : Pos b) (ts : Array TypeId) (t : TypeId) (w : World) :
    (Builtin.max_ ts t #[.float .f64 ninf, .float .f64 b]).run Try.prog w = .ok (.float .f64 b) w := by
  apply run_fmax
  left
  rw [order_inf _ _ ninf_inf.1 hb.fin, ninf_inf.2]
  exact ⟨rfl, rfl⟩
end Go.Proofs.Ytnaogcpcaabbhaa
