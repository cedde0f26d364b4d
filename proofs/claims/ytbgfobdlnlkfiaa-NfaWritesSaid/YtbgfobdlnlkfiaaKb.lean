/- Several texts of this claim, laid together. -/
import Derived.Test.YtbgfobdlnlkfiaaKa
import Derived.Outline
import Derived.Test.YtbgfobdlnlkfiaaB2
/- The builder's build: at a right tree it puts the tree's states behind the others. First: leaves, and a row. -/
namespace Go.Proofs.Ytbgfobdlnlkfiaa.A
open Go.RowKit Go.Proofs.YtbgfobdlnlkfiaaW.PrintWords Go.Proofs.YtbgfobdlnlkfiaaW.PrintLast Go.Proofs.YtbgfobdlnlkfiaaW.PrintMore
attribute [local go_sem] max2_int min2_int max_two min_two max_three min_three max_four min_four
set_option linter.unusedVariables false
set_option linter.unusedSimpArgs false


theorem normFrom_len : ∀ (l : List S54) (lo : Int), 0 ≤ lo → normFrom lo l = true → (l.length : Int) ≤ max 0 (1114113 - lo)
  | [], lo, _, _ => by simp; omega
  | r :: t, lo, h0, h => by
    simp only [normFrom, Bool.and_eq_true, decide_eq_true_eq] at h
    have := normFrom_len t (r.f1 + 2) (by omega) h.2
    simp only [List.length_cons]
    omega
theorem normB_len {l : List S54} (h : normB l = true) : l.length ≤ 1114113 := by
  have := normFrom_len l 0 (by omega) h
  omega
theorem rd26 {l : List S26} {i : Nat} (h : i < l.length) : rd_T26 l (i : Int) = l[i] := by simp [rd_T26, h]
theorem all_rd {l : List S26} {p : S26 → Bool} (h : l.all p = true) {i : Nat} (hi : i < l.length) : p (rd_T26 l (i : Int)) = true := by
  rw [rd26 hi]
  exact List.all_eq_true.1 h _ (List.getElem_mem hi)
theorem mem_rd {l : List S26} {p : S26 → Prop} (h : ∀ y ∈ l, p y) {i : Nat} (hi : i < l.length) : p (rd_T26 l (i : Int)) := by
  rw [rd26 hi]
  exact h _ (List.getElem_mem hi)
theorem foldl_step {b : S26 → List S38 → List S38} {l : List S26} {xs : List S38} {i : Nat} (hi : i < l.length) : (l.take (i + 1)).foldl (fun l y => b y l) xs = b (rd_T26 l (i : Int)) ((l.take i).foldl (fun l y => b y l) xs) := by
  rw [List.take_succ_eq_append_getElem hi, List.foldl_append, rd26 hi]
  rfl
theorem foldl_take_le {b : S26 → List S38 → List S38} (h : ∀ y, Grows (b y)) (l : List S26) (xs : List S38) (i : Nat) : ((l.take i).foldl (fun l y => b y l) xs).length ≤ (l.foldl (fun l y => b y l) xs).length := by
  conv => rhs; rw [← List.take_append_drop i l, List.foldl_append]
  exact foldl_le h _ _
/-- What build does at trees of at most n levels. -/
def BuildAt (n : Nat) : Prop :=
  ∀ (x : S26) (A1 : Option Addr) (c1 : Nat) (A5 : Option Addr) (c5 : Nat) (w0 : World) (base g : Nat) (v : Value) (xs : List S38) (w : World) (hr1 : k54.C w0 A1 x.f1.length x.f1) (hc1 : x.f1.length ≤ c1) (hr5 : k26.C w0 A5 x.f5.length x.f5) (hc5 : x.f5.length ≤ c5)
    (hB : Below w0.heap.size w0 w) (hw0 : w0.heap.size ≤ base) (hI : IsB w base g v xs) (hbase : base ≤ w.heap.size) (hx : rightB n x = true) (hbd : bnd n x) (hm : (buildF n x xs).length ≤ 1000000),
    Calls Try.prog 26 #[.pointer (some ⟨g, 0, none⟩), .agg #[.int .i64 x.f0, .slice A1 x.f1.length c1, .int .i64 x.f2, .int .i64 x.f3, .bool x.f4, .slice A5 x.f5.length c5]] w fun e w' => e = .returned (.tuple #[]) ∧ ∃ v', IsB w' base g v' (buildF n x xs) ∧ Put g v v' w w'
set_option maxHeartbeats 8000000 in
set_option maxRecDepth 100000 in
theorem build_set (n : Nat) (x : S26) (A1 : Option Addr) (c1 : Nat) (A5 : Option Addr) (c5 : Nat) (w0 : World) (base g : Nat) (v : Value) (xs : List S38) (w : World) (hr1 : k54.C w0 A1 x.f1.length x.f1) (hc1 : x.f1.length ≤ c1) (hr5 : k26.C w0 A5 x.f5.length x.f5) (hc5 : x.f5.length ≤ c5)
    (hB : Below w0.heap.size w0 w) (hw0 : w0.heap.size ≤ base) (hI : IsB w base g v xs) (hbase : base ≤ w.heap.size) (k2 : (x.f0 == 2) = true) (hn : normB x.f1 = true) (hm : xs.length ≤ 1000000) :
    Calls Try.prog 26 #[.pointer (some ⟨g, 0, none⟩), .agg #[.int .i64 x.f0, .slice A1 x.f1.length c1, .int .i64 x.f2, .int .i64 x.f3, .bool x.f4, .slice A5 x.f5.length c5]] w fun e w' => e = .returned (.tuple #[]) ∧ ∃ v', IsB w' base g v' (xs ++ [⟨1, x.f1, xs.length + 1, 0⟩]) ∧ Put g v v' w w' := by
  have hln := normB_len hn
  clear hn
  have hu26 := Try.underlying26; have hu38 := Try.underlying38; have HI := Aside0.mk hI; have HB := Aside0.mk hB; have HZ0 := hB.size; have HR1 := Aside0.mk hr1; have HC1 := Aside0.mk hc1; have HR5 := Aside0.mk hr5; have HC5 := Aside0.mk hc5; clear hI hB hr1 hc1 hr5 hc5
  go_enter Try.func26, Try.ntmps26
  go_wp2_with (first | ((with_reducible refine gate_dst (N := 3) rfl ?_); refine box_event ?hg (N := 3) ?hd (cs := #[.int .i64 x.f0, .slice A1 x.f1.length c1, .int .i64 x.f2, .int .i64 x.f3, .bool x.f4, .slice A5 x.f5.length c5]) (t := 26) ?hr ?_; (case hd => rfl); (case hg => rfl); (case hr => first | (go_simp; done) | (go_simp; rfl)); intro gx hgx_ w1 hbox hb; have HG_gx := Aside0.mk hgx_; clear hgx_; have BKX := Aside0.mk hbox; have HBX := Aside0.mk hb; have HIX := Aside0.mk (HI.out.below hb); have HZX := hb.size; have HB0 := Aside0.mk (below_then HB.out HZ0 hb); clear hbox hb; have hx0 : w1.cell? ⟨gx, 0, none⟩ = some (.int .i64 x.f0) := (blk_cell BKX.out 0).trans rfl; have hx1 : w1.cell? ⟨gx, 1, none⟩ = some (.slice A1 x.f1.length c1) := (blk_cell BKX.out 1).trans rfl; have hx2 : w1.cell? ⟨gx, 2, none⟩ = some (.int .i64 x.f2) := (blk_cell BKX.out 2).trans rfl; have hx3 : w1.cell? ⟨gx, 3, none⟩ = some (.int .i64 x.f3) := (blk_cell BKX.out 3).trans rfl; have hx4 : w1.cell? ⟨gx, 4, none⟩ = some (.bool x.f4) := (blk_cell BKX.out 4).trans rfl; have hx5 : w1.cell? ⟨gx, 5, none⟩ = some (.slice A5 x.f5.length c5) := (blk_cell BKX.out 5).trans rfl ) | (go_at_call 50; refine (clone_calls A1 c1 x.f1 base _ (Kd.C_below HR1.out HB0.out) HC1.out (by omega) (by omega)).mono ?_; rintro e w2 ⟨vr, rfl, hR2, hB2⟩; obtain ⟨Ar, cr, rfl⟩ := Kd.R_slice hR2; have HR2 := Aside0.mk hR2; have HB2 := Aside0.mk hB2; have HI2 := Aside0.mk (HIX.out.below hB2); have HZ2 := hB2.size; clear hR2 hB2) | (go_at_call 49; refine (put_calls ⟨1, x.f1, 0, 0⟩ (.slice Ar x.f1.length cr) base g v xs _ HI2.out HR2.out (by omega) hm).mono ?_; rintro e w3 ⟨rfl, v3, hI3, hP3⟩; have HI3 := Aside0.mk hI3; have HP3 := Aside0.mk hP3; clear hI3 hP3))
  go_end0
  exact ⟨rfl, v3, HI3.out, (Put.of_below (HBX.out.trans (HB2.out.mono HZX))).trans HP3.out⟩
set_option maxHeartbeats 8000000 in
set_option maxRecDepth 100000 in
theorem build_leaf6 (x : S26) (A1 : Option Addr) (c1 : Nat) (A5 : Option Addr) (c5 : Nat) (base g : Nat) (v : Value) (xs : List S38) (w : World)
    (hI : IsB w base g v xs) (hbase : base ≤ w.heap.size) (n6 : (x.f0 == 2) = false) (kk : (x.f0 == 6) = true) (hm : xs.length ≤ 1000000) :
    Calls Try.prog 26 #[.pointer (some ⟨g, 0, none⟩), .agg #[.int .i64 x.f0, .slice A1 x.f1.length c1, .int .i64 x.f2, .int .i64 x.f3, .bool x.f4, .slice A5 x.f5.length c5]] w fun e w' => e = .returned (.tuple #[]) ∧ ∃ v', IsB w' base g v' (xs ++ [⟨3, [], xs.length + 1, 0⟩]) ∧ Put g v v' w w' := by
  have hu26 := Try.underlying26
  have hu38 := Try.underlying38
  have HI := Aside0.mk hI
  have HB := Aside0.mk (Below.refl w.heap.size w)
  have HZ0 := Nat.le_refl w.heap.size
  clear hI
  go_enter Try.func26, Try.ntmps26
  go_wp2_with (first | ((with_reducible refine gate_dst (N := 3) rfl ?_); refine box_event ?hg (N := 3) ?hd (cs := #[.int .i64 x.f0, .slice A1 x.f1.length c1, .int .i64 x.f2, .int .i64 x.f3, .bool x.f4, .slice A5 x.f5.length c5]) (t := 26) ?hr ?_; (case hd => rfl); (case hg => rfl); (case hr => first | (go_simp; done) | (go_simp; rfl)); intro gx hgx_ w1 hbox hb; have HG_gx := Aside0.mk hgx_; clear hgx_; have BKX := Aside0.mk hbox; have HBX := Aside0.mk hb; have HIX := Aside0.mk (HI.out.below hb); have HZX := hb.size; have HB0 := Aside0.mk (below_then HB.out HZ0 hb); clear hbox hb; have hx0 : w1.cell? ⟨gx, 0, none⟩ = some (.int .i64 x.f0) := (blk_cell BKX.out 0).trans rfl; have hx1 : w1.cell? ⟨gx, 1, none⟩ = some (.slice A1 x.f1.length c1) := (blk_cell BKX.out 1).trans rfl; have hx2 : w1.cell? ⟨gx, 2, none⟩ = some (.int .i64 x.f2) := (blk_cell BKX.out 2).trans rfl; have hx3 : w1.cell? ⟨gx, 3, none⟩ = some (.int .i64 x.f3) := (blk_cell BKX.out 3).trans rfl; have hx4 : w1.cell? ⟨gx, 4, none⟩ = some (.bool x.f4) := (blk_cell BKX.out 4).trans rfl; have hx5 : w1.cell? ⟨gx, 5, none⟩ = some (.slice A5 x.f5.length c5) := (blk_cell BKX.out 5).trans rfl ) | (go_at_call 49; refine (put_calls ⟨3, [], 0, 0⟩ (.slice none 0 0) base g v xs _ HIX.out (Kd.R_nil _ _ _ _ _) (by omega) hm).mono ?_; rintro e w3 ⟨rfl, v3, hI3, hP3⟩; have HI3 := Aside0.mk hI3; have HP3 := Aside0.mk hP3; clear hI3 hP3))
  go_end0
  exact ⟨rfl, v3, HI3.out, (Put.of_below HBX.out).trans HP3.out⟩
set_option maxHeartbeats 8000000 in
set_option maxRecDepth 100000 in
theorem build_leaf7 (x : S26) (A1 : Option Addr) (c1 : Nat) (A5 : Option Addr) (c5 : Nat) (base g : Nat) (v : Value) (xs : List S38) (w : World)
    (hI : IsB w base g v xs) (hbase : base ≤ w.heap.size) (n2 : (x.f0 == 2) = false) (n6 : (x.f0 == 6) = false) (kk : (x.f0 == 7) = true) (hm : xs.length ≤ 1000000) :
    Calls Try.prog 26 #[.pointer (some ⟨g, 0, none⟩), .agg #[.int .i64 x.f0, .slice A1 x.f1.length c1, .int .i64 x.f2, .int .i64 x.f3, .bool x.f4, .slice A5 x.f5.length c5]] w fun e w' => e = .returned (.tuple #[]) ∧ ∃ v', IsB w' base g v' (xs ++ [⟨4, [], xs.length + 1, 0⟩]) ∧ Put g v v' w w' := by
  have hu26 := Try.underlying26
  have hu38 := Try.underlying38
  have HI := Aside0.mk hI
  have HB := Aside0.mk (Below.refl w.heap.size w)
  have HZ0 := Nat.le_refl w.heap.size
  clear hI
  go_enter Try.func26, Try.ntmps26
  go_wp2_with (first | ((with_reducible refine gate_dst (N := 3) rfl ?_); refine box_event ?hg (N := 3) ?hd (cs := #[.int .i64 x.f0, .slice A1 x.f1.length c1, .int .i64 x.f2, .int .i64 x.f3, .bool x.f4, .slice A5 x.f5.length c5]) (t := 26) ?hr ?_; (case hd => rfl); (case hg => rfl); (case hr => first | (go_simp; done) | (go_simp; rfl)); intro gx hgx_ w1 hbox hb; have HG_gx := Aside0.mk hgx_; clear hgx_; have BKX := Aside0.mk hbox; have HBX := Aside0.mk hb; have HIX := Aside0.mk (HI.out.below hb); have HZX := hb.size; have HB0 := Aside0.mk (below_then HB.out HZ0 hb); clear hbox hb; have hx0 : w1.cell? ⟨gx, 0, none⟩ = some (.int .i64 x.f0) := (blk_cell BKX.out 0).trans rfl; have hx1 : w1.cell? ⟨gx, 1, none⟩ = some (.slice A1 x.f1.length c1) := (blk_cell BKX.out 1).trans rfl; have hx2 : w1.cell? ⟨gx, 2, none⟩ = some (.int .i64 x.f2) := (blk_cell BKX.out 2).trans rfl; have hx3 : w1.cell? ⟨gx, 3, none⟩ = some (.int .i64 x.f3) := (blk_cell BKX.out 3).trans rfl; have hx4 : w1.cell? ⟨gx, 4, none⟩ = some (.bool x.f4) := (blk_cell BKX.out 4).trans rfl; have hx5 : w1.cell? ⟨gx, 5, none⟩ = some (.slice A5 x.f5.length c5) := (blk_cell BKX.out 5).trans rfl ) | (go_at_call 49; refine (put_calls ⟨4, [], 0, 0⟩ (.slice none 0 0) base g v xs _ HIX.out (Kd.R_nil _ _ _ _ _) (by omega) hm).mono ?_; rintro e w3 ⟨rfl, v3, hI3, hP3⟩; have HI3 := Aside0.mk hI3; have HP3 := Aside0.mk hP3; clear hI3 hP3))
  go_end0
  exact ⟨rfl, v3, HI3.out, (Put.of_below HBX.out).trans HP3.out⟩
set_option maxHeartbeats 8000000 in
set_option maxRecDepth 100000 in
theorem build_leaf8 (x : S26) (A1 : Option Addr) (c1 : Nat) (A5 : Option Addr) (c5 : Nat) (base g : Nat) (v : Value) (xs : List S38) (w : World)
    (hI : IsB w base g v xs) (hbase : base ≤ w.heap.size) (n2 : (x.f0 == 2) = false) (n6 : (x.f0 == 6) = false) (n7 : (x.f0 == 7) = false) (kk : (x.f0 == 8) = true) (hm : xs.length ≤ 1000000) :
    Calls Try.prog 26 #[.pointer (some ⟨g, 0, none⟩), .agg #[.int .i64 x.f0, .slice A1 x.f1.length c1, .int .i64 x.f2, .int .i64 x.f3, .bool x.f4, .slice A5 x.f5.length c5]] w fun e w' => e = .returned (.tuple #[]) ∧ ∃ v', IsB w' base g v' (xs ++ [⟨5, [], xs.length + 1, 0⟩]) ∧ Put g v v' w w' := by
  have hu26 := Try.underlying26
  have hu38 := Try.underlying38
  have HI := Aside0.mk hI
  have HB := Aside0.mk (Below.refl w.heap.size w)
  have HZ0 := Nat.le_refl w.heap.size
  clear hI
  go_enter Try.func26, Try.ntmps26
  go_wp2_with (first | ((with_reducible refine gate_dst (N := 3) rfl ?_); refine box_event ?hg (N := 3) ?hd (cs := #[.int .i64 x.f0, .slice A1 x.f1.length c1, .int .i64 x.f2, .int .i64 x.f3, .bool x.f4, .slice A5 x.f5.length c5]) (t := 26) ?hr ?_; (case hd => rfl); (case hg => rfl); (case hr => first | (go_simp; done) | (go_simp; rfl)); intro gx hgx_ w1 hbox hb; have HG_gx := Aside0.mk hgx_; clear hgx_; have BKX := Aside0.mk hbox; have HBX := Aside0.mk hb; have HIX := Aside0.mk (HI.out.below hb); have HZX := hb.size; have HB0 := Aside0.mk (below_then HB.out HZ0 hb); clear hbox hb; have hx0 : w1.cell? ⟨gx, 0, none⟩ = some (.int .i64 x.f0) := (blk_cell BKX.out 0).trans rfl; have hx1 : w1.cell? ⟨gx, 1, none⟩ = some (.slice A1 x.f1.length c1) := (blk_cell BKX.out 1).trans rfl; have hx2 : w1.cell? ⟨gx, 2, none⟩ = some (.int .i64 x.f2) := (blk_cell BKX.out 2).trans rfl; have hx3 : w1.cell? ⟨gx, 3, none⟩ = some (.int .i64 x.f3) := (blk_cell BKX.out 3).trans rfl; have hx4 : w1.cell? ⟨gx, 4, none⟩ = some (.bool x.f4) := (blk_cell BKX.out 4).trans rfl; have hx5 : w1.cell? ⟨gx, 5, none⟩ = some (.slice A5 x.f5.length c5) := (blk_cell BKX.out 5).trans rfl ) | (go_at_call 49; refine (put_calls ⟨5, [], 0, 0⟩ (.slice none 0 0) base g v xs _ HIX.out (Kd.R_nil _ _ _ _ _) (by omega) hm).mono ?_; rintro e w3 ⟨rfl, v3, hI3, hP3⟩; have HI3 := Aside0.mk hI3; have HP3 := Aside0.mk hP3; clear hI3 hP3))
  go_end0
  exact ⟨rfl, v3, HI3.out, (Put.of_below HBX.out).trans HP3.out⟩
set_option maxHeartbeats 8000000 in
set_option maxRecDepth 100000 in
theorem build_leaf9 (x : S26) (A1 : Option Addr) (c1 : Nat) (A5 : Option Addr) (c5 : Nat) (base g : Nat) (v : Value) (xs : List S38) (w : World)
    (hI : IsB w base g v xs) (hbase : base ≤ w.heap.size) (n2 : (x.f0 == 2) = false) (n6 : (x.f0 == 6) = false) (n7 : (x.f0 == 7) = false) (n8 : (x.f0 == 8) = false) (kk : (x.f0 == 9) = true) (hm : xs.length ≤ 1000000) :
    Calls Try.prog 26 #[.pointer (some ⟨g, 0, none⟩), .agg #[.int .i64 x.f0, .slice A1 x.f1.length c1, .int .i64 x.f2, .int .i64 x.f3, .bool x.f4, .slice A5 x.f5.length c5]] w fun e w' => e = .returned (.tuple #[]) ∧ ∃ v', IsB w' base g v' (xs ++ [⟨6, [], xs.length + 1, 0⟩]) ∧ Put g v v' w w' := by
  have hu26 := Try.underlying26
  have hu38 := Try.underlying38
  have HI := Aside0.mk hI
  have HB := Aside0.mk (Below.refl w.heap.size w)
  have HZ0 := Nat.le_refl w.heap.size
  clear hI
  go_enter Try.func26, Try.ntmps26
  go_wp2_with (first | ((with_reducible refine gate_dst (N := 3) rfl ?_); refine box_event ?hg (N := 3) ?hd (cs := #[.int .i64 x.f0, .slice A1 x.f1.length c1, .int .i64 x.f2, .int .i64 x.f3, .bool x.f4, .slice A5 x.f5.length c5]) (t := 26) ?hr ?_; (case hd => rfl); (case hg => rfl); (case hr => first | (go_simp; done) | (go_simp; rfl)); intro gx hgx_ w1 hbox hb; have HG_gx := Aside0.mk hgx_; clear hgx_; have BKX := Aside0.mk hbox; have HBX := Aside0.mk hb; have HIX := Aside0.mk (HI.out.below hb); have HZX := hb.size; have HB0 := Aside0.mk (below_then HB.out HZ0 hb); clear hbox hb; have hx0 : w1.cell? ⟨gx, 0, none⟩ = some (.int .i64 x.f0) := (blk_cell BKX.out 0).trans rfl; have hx1 : w1.cell? ⟨gx, 1, none⟩ = some (.slice A1 x.f1.length c1) := (blk_cell BKX.out 1).trans rfl; have hx2 : w1.cell? ⟨gx, 2, none⟩ = some (.int .i64 x.f2) := (blk_cell BKX.out 2).trans rfl; have hx3 : w1.cell? ⟨gx, 3, none⟩ = some (.int .i64 x.f3) := (blk_cell BKX.out 3).trans rfl; have hx4 : w1.cell? ⟨gx, 4, none⟩ = some (.bool x.f4) := (blk_cell BKX.out 4).trans rfl; have hx5 : w1.cell? ⟨gx, 5, none⟩ = some (.slice A5 x.f5.length c5) := (blk_cell BKX.out 5).trans rfl ) | (go_at_call 49; refine (put_calls ⟨6, [], 0, 0⟩ (.slice none 0 0) base g v xs _ HIX.out (Kd.R_nil _ _ _ _ _) (by omega) hm).mono ?_; rintro e w3 ⟨rfl, v3, hI3, hP3⟩; have HI3 := Aside0.mk hI3; have HP3 := Aside0.mk hP3; clear hI3 hP3))
  go_end0
  exact ⟨rfl, v3, HI3.out, (Put.of_below HBX.out).trans HP3.out⟩
set_option maxHeartbeats 8000000 in
set_option maxRecDepth 100000 in
theorem build_row (n : Nat) (ih : BuildAt n) (x : S26) (A1 : Option Addr) (c1 : Nat) (A5 : Option Addr) (c5 : Nat) (w0 : World) (base g : Nat) (v : Value) (xs : List S38) (w : World) (hr1 : k54.C w0 A1 x.f1.length x.f1) (hc1 : x.f1.length ≤ c1) (hr5 : k26.C w0 A5 x.f5.length x.f5) (hc5 : x.f5.length ≤ c5)
    (hB : Below w0.heap.size w0 w) (hw0 : w0.heap.size ≤ base) (hI : IsB w base g v xs) (hbase : base ≤ w.heap.size) (n2 : (x.f0 == 2) = false) (n6 : (x.f0 == 6) = false) (n7 : (x.f0 == 7) = false) (n8 : (x.f0 == 8) = false) (n9 : (x.f0 == 9) = false) (kk : (x.f0 == 3) = true)
    (hs : x.f5.all (rightB n) = true) (hbs : ∀ y ∈ x.f5, bnd n y) (hm : (x.f5.foldl (fun l y => buildF n y l) xs).length ≤ 1000000) (hmx : x.f5.length ≤ 9223372036854775807) :
    Calls Try.prog 26 #[.pointer (some ⟨g, 0, none⟩), .agg #[.int .i64 x.f0, .slice A1 x.f1.length c1, .int .i64 x.f2, .int .i64 x.f3, .bool x.f4, .slice A5 x.f5.length c5]] w fun e w' => e = .returned (.tuple #[]) ∧ ∃ v', IsB w' base g v' (x.f5.foldl (fun l y => buildF n y l) xs) ∧ Put g v v' w w' := by
  have hu26 := Try.underlying26; have hu38 := Try.underlying38; have HI := Aside0.mk hI; have HB := Aside0.mk hB; have HZ0 := hB.size; have HR1 := Aside0.mk hr1; have HC1 := Aside0.mk hc1; have HR5 := Aside0.mk hr5; have HC5 := Aside0.mk hc5; clear hI hB hr1 hc1 hr5 hc5
  have HS := Aside0.mk hs
  have HBS := Aside0.mk hbs
  have HM := Aside0.mk hm
  have IH := Aside0.mk ih
  clear hs hm ih hbs
  go_enter Try.func26, Try.ntmps26
  go_wp2_with (first | ((with_reducible refine gate_dst (N := 3) rfl ?_); refine box_event ?hg (N := 3) ?hd (cs := #[.int .i64 x.f0, .slice A1 x.f1.length c1, .int .i64 x.f2, .int .i64 x.f3, .bool x.f4, .slice A5 x.f5.length c5]) (t := 26) ?hr ?_; (case hd => rfl); (case hg => rfl); (case hr => first | (go_simp; done) | (go_simp; rfl)); intro gx hgx_ w1 hbox hb; have HG_gx := Aside0.mk hgx_; clear hgx_; have BKX := Aside0.mk hbox; have HBX := Aside0.mk hb; have HIX := Aside0.mk (HI.out.below hb); have HZX := hb.size; have HB0 := Aside0.mk (below_then HB.out HZ0 hb); clear hbox hb; have hx0 : w1.cell? ⟨gx, 0, none⟩ = some (.int .i64 x.f0) := (blk_cell BKX.out 0).trans rfl; have hx1 : w1.cell? ⟨gx, 1, none⟩ = some (.slice A1 x.f1.length c1) := (blk_cell BKX.out 1).trans rfl; have hx2 : w1.cell? ⟨gx, 2, none⟩ = some (.int .i64 x.f2) := (blk_cell BKX.out 2).trans rfl; have hx3 : w1.cell? ⟨gx, 3, none⟩ = some (.int .i64 x.f3) := (blk_cell BKX.out 3).trans rfl; have hx4 : w1.cell? ⟨gx, 4, none⟩ = some (.bool x.f4) := (blk_cell BKX.out 4).trans rfl; have hx5 : w1.cell? ⟨gx, 5, none⟩ = some (.slice A5 x.f5.length c5) := (blk_cell BKX.out 5).trans rfl ))
  go_loopg [47] x.f5.length (fun kq v47 w' => ∃ (i : Nat) (v' : Value), v47 = .int .i64 i ∧ Aside0 (i ≤ x.f5.length ∧ kq = x.f5.length - i) ∧ Aside0 (IsB w' base g v' ((x.f5.take i).foldl (fun l y => buildF n y l) xs)) ∧ Aside0 (Put g v v' w w') ∧ Aside0 (Below w0.heap.size w0 w'))
  case atStart => exact ⟨0, v, rfl, ⟨by omega, by omega⟩, ⟨HIX.out⟩, ⟨Put.of_below HBX.out⟩, ⟨HB0.out⟩⟩
  case round =>
    clear hx0 hx1 hx2 hx3 hx4 hx5
    obtain ⟨i, v1, rfl, HI1, HIW, HPW, HBW⟩ := hrel
    by_cases hlt : i < x.f5.length
    · have hi0 : 0 ≤ (i : Int) := by omega
      have hi1 : (i : Int) < (x.f5.length : Int) := by omega
      have d1 : decide ((i : Int) < (x.f5.length : Int)) = true := decide_eq_true hi1
      obtain ⟨ad, A1_, c1_, A5_, c5_, e_, hx0_, hx1_, hx2_, hx3_, hx4_, hx5_, hl1_, hi1_, hl5_, hi5_⟩ := at_T26 HR5.out (i : Int) (by omega) (by omega); cases e_; simp only [Int.toNat_natCast] at hx0_ hx1_ hx2_ hx3_ hx4_ hx5_; replace hx0_ := (HBW.out.cell (World.block_lt_of_cell? w0 _ hx0_)).trans hx0_; replace hx1_ := (HBW.out.cell (World.block_lt_of_cell? w0 _ hx1_)).trans hx1_; replace hx2_ := (HBW.out.cell (World.block_lt_of_cell? w0 _ hx2_)).trans hx2_; replace hx3_ := (HBW.out.cell (World.block_lt_of_cell? w0 _ hx3_)).trans hx3_; replace hx4_ := (HBW.out.cell (World.block_lt_of_cell? w0 _ hx4_)).trans hx4_; replace hx5_ := (HBW.out.cell (World.block_lt_of_cell? w0 _ hx5_)).trans hx5_
      have HK := Aside0.mk (show rightB n (rd_T26 x.f5 (i : Int)) = true from all_rd HS.out hlt)
      have HBD := Aside0.mk (show bnd n (rd_T26 x.f5 (i : Int)) from mem_rd HBS.out hlt)
      have HFS := Aside0.mk (show (x.f5.take (i + 1)).foldl (fun l y => buildF n y l) xs = buildF n (rd_T26 x.f5 (i : Int)) ((x.f5.take i).foldl (fun l y => buildF n y l) xs) from foldl_step (b := buildF n) hlt)
      have HLE := Aside0.mk (show (buildF n (rd_T26 x.f5 (i : Int)) ((x.f5.take i).foldl (fun l y => buildF n y l) xs)).length ≤ 1000000 from by rw [← HFS.out]; exact Nat.le_trans (foldl_take_le (b := buildF n) (buildF_le n) _ _ _) HM.out)
      go_wp2_with (first | ((with_reducible refine gate_dst (N := 5) rfl ?_); refine box_event ?hg (N := 5) ?hd (cs := #[.int .i64 0, .slice none 0 0, .int .i64 0, .int .i64 0, .bool false, .slice none 0 0]) (t := 26) ?hr ?_; (case hd => rfl); (case hg => rfl); (case hr => first | (go_simp; done) | (go_simp; rfl)); intro gy hgx_ wy hbox hb; have HG_gy := Aside0.mk hgx_; clear hgx_; have HBY := Aside0.mk hb; have GEY : Aside0 (wr.heap.size ≤ gy) := ⟨by have := HG_gy.out; omega⟩; have hy0 : wy.cell? ⟨gy, 0, none⟩ = some (.int .i64 0) := (blk_cell hbox 0).trans rfl; have hy1 : wy.cell? ⟨gy, 1, none⟩ = some (.slice none 0 0) := (blk_cell hbox 1).trans rfl; have hy2 : wy.cell? ⟨gy, 2, none⟩ = some (.int .i64 0) := (blk_cell hbox 2).trans rfl; have hy3 : wy.cell? ⟨gy, 3, none⟩ = some (.int .i64 0) := (blk_cell hbox 3).trans rfl; have hy4 : wy.cell? ⟨gy, 4, none⟩ = some (.bool false) := (blk_cell hbox 4).trans rfl; have hy5 : wy.cell? ⟨gy, 5, none⟩ = some (.slice none 0 0) := (blk_cell hbox 5).trans rfl; have hyf0 := blk_frozen hbox 0; have hyf1 := blk_frozen hbox 1; have hyf2 := blk_frozen hbox 2; have hyf3 := blk_frozen hbox 3; have hyf4 := blk_frozen hbox 4; have hyf5 := blk_frozen hbox 5; have HYB := Aside0.mk hbox; clear hb hbox; replace hx0_ := (HBY.out.cell (World.block_lt_of_cell? _ _ hx0_)).trans hx0_; replace hx1_ := (HBY.out.cell (World.block_lt_of_cell? _ _ hx1_)).trans hx1_; replace hx2_ := (HBY.out.cell (World.block_lt_of_cell? _ _ hx2_)).trans hx2_; replace hx3_ := (HBY.out.cell (World.block_lt_of_cell? _ _ hx3_)).trans hx3_; replace hx4_ := (HBY.out.cell (World.block_lt_of_cell? _ _ hx4_)).trans hx4_; replace hx5_ := (HBY.out.cell (World.block_lt_of_cell? _ _ hx5_)).trans hx5_ ) | (go_at_call 26; refine (IH.out (rd_T26 x.f5 (i : Int)) A1_ c1_ A5_ c5_ w0 base g v1 _ _ hi1_ hl1_ hi5_ hl5_ ?sB hw0 ?sI ?sb HK.out HBD.out HLE.out).mono ?_; (case sB => exact below_then HBW.out HBW.out.size (by repeat (first | (with_reducible exact HBY.out) | (with_reducible refine below_set ?_ GEY.out)))); (case sI => exact HIW.out.below (by repeat (first | (with_reducible exact HBY.out) | (with_reducible refine below_set ?_ GEY.out)))); (case sb => exact Nat.le_trans (Nat.le_of_lt (Nat.lt_of_le_of_lt HIW.out.low HIW.out.lt)) (Below.size (B := wr.heap.size) (by repeat (first | (with_reducible exact HBY.out) | (with_reducible refine below_set ?_ GEY.out))))); rintro e w4 ⟨rfl, v4, hI4, hP4⟩; have HI4 := Aside0.mk hI4; have HP4 := Aside0.mk ((HPW.out.below (by repeat (first | (with_reducible exact HBY.out) | (with_reducible refine below_set ?_ GEY.out)))).trans hP4); clear hI4 hP4))
      go_roundg (x.f5.length - (i + 1))
      case measure => have := HI1.out; omega
      case rel => exact ⟨i + 1, v4, by go_num, ⟨by omega, rfl⟩, ⟨by rw [HFS.out]; exact HI4.out⟩, ⟨HP4.out⟩, ⟨HP4.out.old HB.out HZ0 (Nat.le_trans hw0 HI.out.low) (fun k hk => Nat.le_trans hw0 (Kd.R_base HI.out.row k hk))⟩⟩
    · have d1 : decide ((i : Int) < (x.f5.length : Int)) = false := decide_eq_false (by omega)
      go_wp2
      go_end0
      have hil : i = x.f5.length := by have := HI1.out; omega
      have h1 := HIW.out
      rw [hil, List.take_length] at h1
      exact ⟨rfl, v1, h1, HPW.out⟩
end Go.Proofs.Ytbgfobdlnlkfiaa.A
/- Plain: what nfa.size counts at a right tree. -/
namespace Go.Proofs.Ytbgfobdlnlkfiaa.A
open Go.RowKit Go.Proofs.YtbgfobdlnlkfiaaW.PrintWords Go.Proofs.YtbgfobdlnlkfiaaW.PrintLast Go.Proofs.YtbgfobdlnlkfiaaW.PrintMore
attribute [local go_sem] max2_int min2_int max_two min_two max_three min_three max_four min_four
set_option linter.unusedVariables false
set_option linter.unusedSimpArgs false

def finF (x : S26) (s most : Int) : Int :=
  mn (if x.f0 = 1 ∨ x.f0 = 3 then s
      else if x.f0 = 4 then s + 2 * (x.f5.length - 1)
      else if x.f0 = 5 then (if x.f3 < 0 then x.f2 * s + s + 2 else x.f2 * s + (x.f3 - x.f2) * (s + 1))
      else s + 1) most
theorem sizeF_succ (n : Nat) (x : S26) (most : Int) : sizeF (n + 1) x most = finF x (x.f5.foldl (fun s y => mn (s + sizeF n y most) most) 0) most := rfl
theorem mn_le (a b : Int) : mn a b ≤ b := by unfold mn; split <;> omega
theorem mn_nonneg {a b : Int} (ha : 0 ≤ a) (hb : 0 ≤ b) : 0 ≤ mn a b := by unfold mn; split <;> omega
theorem w64 {a : Int} (h0 : -9223372036854775808 ≤ a) (h1 : a ≤ 9223372036854775807) : wrap64 a = a := IntWalk.wrap64_in a ⟨h0, h1⟩
theorem mul_bd {a b A B : Int} (ha : 0 ≤ a) (hb : 0 ≤ b) (h1 : a ≤ A) (h2 : b ≤ B) : 0 ≤ a * b ∧ a * b ≤ A * B := ⟨Int.mul_nonneg ha hb, Int.mul_le_mul h1 h2 hb (by omega)⟩
theorem finF_bd {x : S26} {s most : Int} (hx : nodeB x = true) (h0 : 0 ≤ s) (hm : 0 ≤ most) : 0 ≤ finF x s most ∧ finF x s most ≤ most := by
  refine ⟨mn_nonneg ?_ hm, mn_le _ _⟩
  unfold nodeB at hx
  split
  · exact h0
  · split
    · rename_i h1 h2
      rw [h2] at hx
      simp at hx
      omega
    · split
      · rename_i h1 h2 h3
        rw [h3] at hx
        simp at hx
        split
        · have := (mul_bd (a := x.f2) (b := s) (A := x.f2) (B := s) (by omega) h0 (Int.le_refl _) (Int.le_refl _)).1
          omega
        · have h4 := (mul_bd (a := x.f2) (b := s) (A := x.f2) (B := s) (by omega) h0 (Int.le_refl _) (Int.le_refl _)).1
          have h5 := (mul_bd (a := x.f3 - x.f2) (b := s + 1) (A := x.f3 - x.f2) (B := s + 1) (by omega) (by omega) (Int.le_refl _) (Int.le_refl _)).1
          omega
      · omega
theorem j1_ev {x : S26} {s most : Int} (hx : nodeB x = true) (h0 : 0 ≤ s) (hs : s ≤ most) (hm : most ≤ 65536) (hl : x.f5.length * 80 ≤ 140737488351232) :
    Ev (fun k => if x.f0 = 1 then nfa_size.j1 k most s x.f0 (x.f0 == 1) x.f0 x.f1 x.f2 x.f3 x.f4 x.f5 else nfa_size.j1 k most s x.f0 (x.f0 == 3) x.f0 x.f1 x.f2 x.f3 x.f4 x.f5) (finF x s most) := by
  have hxx := hx
  unfold nodeB at hx
  by_cases e1 : x.f0 = 1
  · simp only [e1, if_true]
    refine Ev.step (f := fun _ => some (mn s most)) (fun k => by simp [nfa_size.j1]) ?_
    have : finF x s most = mn s most := by simp [finF, e1]
    rw [this]
    exact Ev.now _
  · simp only [e1, if_false]
    by_cases e3 : x.f0 = 3
    · simp only [e3]
      refine Ev.step (f := fun _ => some (mn s most)) (fun k => by simp [nfa_size.j1]) ?_
      have : finF x s most = mn s most := by simp [finF, e3]
      rw [this]
      exact Ev.now _
    · have b3 : (x.f0 == 3) = false := beq_eq_false_iff_ne.2 e3
      simp only [b3]
      by_cases e4 : x.f0 = 4
      · simp only [e4]
        refine Ev.step (f := fun _ => some (mn (s + 2 * ((x.f5.length : Int) - 1)) most)) (fun k => ?_) ?_
        · simp only [nfa_size.j1]
          rw [if_neg (by decide), if_pos trivial, w64 (a := (x.f5.length : Int) - 1) (by omega) (by omega), w64 (a := 2 * ((x.f5.length : Int) - 1)) (by omega) (by omega), w64 (by omega) (by omega)]
        · have : finF x s most = mn (s + 2 * ((x.f5.length : Int) - 1)) most := by simp [finF, e4]
          rw [this]
          exact Ev.now _
      · by_cases e5 : x.f0 = 5
        · rw [e5] at hx
          simp at hx
          obtain ⟨⟨⟨⟨⟨⟨_, _⟩, p1⟩, p2⟩, p3⟩, p4⟩, p5⟩ := hx
          simp only [e5]
          have hm1 := mul_bd (a := x.f2) (b := s) (A := 1000) (B := 65536) p1 h0 p2 (by omega)
          by_cases e6 : x.f3 < 0
          · refine Ev.step (f := fun _ => some (mn (x.f2 * s + s + 2) most)) (fun k => ?_) ?_
            · simp only [nfa_size.j1]
              rw [if_neg (by decide), if_neg (by decide), if_pos trivial, if_pos e6, w64 (a := x.f2 * s) (by omega) (by omega), w64 (a := x.f2 * s + s) (by omega) (by omega), w64 (by omega) (by omega)]
            · have : finF x s most = mn (x.f2 * s + s + 2) most := by simp [finF, e5, e6]
              rw [this]
              exact Ev.now _
          · have hm2 := mul_bd (a := x.f3 - x.f2) (b := s + 1) (A := 1000) (B := 65537) (by omega) (by omega) (by omega) (by omega)
            refine Ev.step (f := fun _ => some (mn (x.f2 * s + (x.f3 - x.f2) * (s + 1)) most)) (fun k => ?_) ?_
            · simp only [nfa_size.j1]
              rw [if_neg (by decide), if_neg (by decide), if_pos trivial, if_neg e6, w64 (a := x.f2 * s) (by omega) (by omega), w64 (a := x.f3 - x.f2) (by omega) (by omega), w64 (a := s + 1) (by omega) (by omega), w64 (a := (x.f3 - x.f2) * (s + 1)) (by omega) (by omega), w64 (by omega) (by omega)]
            · have : finF x s most = mn (x.f2 * s + (x.f3 - x.f2) * (s + 1)) most := by simp [finF, e5, e6]
              rw [this]
              exact Ev.now _
        · refine Ev.step (f := fun _ => some (mn (s + 1) most)) (fun k => ?_) ?_
          · simp only [nfa_size.j1]
            rw [if_neg (by decide), if_neg e4, if_neg e5, w64 (by omega) (by omega)]
          · have : finF x s most = mn (s + 1) most := by simp [finF, e1, e3, e4, e5]
            rw [this]
            exact Ev.now _
theorem size_l0 (n : Nat) (x : S26) (most : Int) (hm0 : 0 ≤ most) (hm : most ≤ 65536) (hx : nodeB x = true) (hl : x.f5.length * 80 ≤ 140737488351232)
    (ih : ∀ y, y ∈ x.f5 → Ev (fun k => nfa_size.f k y.f0 y.f1 y.f2 y.f3 y.f4 y.f5 most) (sizeF n y most) ∧ 0 ≤ sizeF n y most ∧ sizeF n y most ≤ most) :
    ∀ (d i : Nat) (s : Int), i + d = x.f5.length → 0 ≤ s → s ≤ most →
      Ev (fun k => nfa_size.l0 k most s x.f5 (x.f5.length : Int) (i : Int) x.f0 x.f1 x.f2 x.f3 x.f4 x.f5) (finF x ((x.f5.drop i).foldl (fun s y => mn (s + sizeF n y most) most) s) most)
  | 0, i, s, hd, h0, hs => by
    rw [List.drop_eq_nil_of_le (by omega)]
    refine Ev.step (fun k => by simp only [nfa_size.l0]; rw [if_neg (by omega)]) ?_
    exact j1_ev hx h0 hs hm hl
  | d + 1, i, s, hd, h0, hs => by
    have hi : i < x.f5.length := by omega
    obtain ⟨h1, h2, h3⟩ := ih _ (List.getElem_mem hi)
    have he : rd_T26 x.f5 (i : Int) = x.f5[i] := rd26 hi
    refine Ev.step (f := fun k => (nfa_size.f k (rd_T26 x.f5 (i : Int)).f0 (rd_T26 x.f5 (i : Int)).f1 (rd_T26 x.f5 (i : Int)).f2 (rd_T26 x.f5 (i : Int)).f3 (rd_T26 x.f5 (i : Int)).f4 (rd_T26 x.f5 (i : Int)).f5 most).bind fun t => nfa_size.l0 k most (mn (wrap64 (s + t)) most) x.f5 (x.f5.length : Int) (wrap64 ((i : Int) + 1)) x.f0 x.f1 x.f2 x.f3 x.f4 x.f5)
      (fun k => by simp only [nfa_size.l0]; rw [if_pos (by omega), if_pos (by omega), if_pos (by omega)]) ?_
    rw [he]
    refine Ev.bind h1 ?_
    rw [w64 (a := s + sizeF n x.f5[i] most) (by omega) (by omega), w64 (a := (i : Int) + 1) (by omega) (by omega), List.drop_eq_getElem_cons hi]
    have h4 := size_l0 n x most hm0 hm hx hl ih d (i + 1) (mn (s + sizeF n x.f5[i] most) most) (by omega) (mn_nonneg (by omega) hm0) (mn_le _ _)
    exact h4
theorem foldl_bd {f : S26 → Int} {most : Int} (hm : 0 ≤ most) : ∀ (ys : List S26) (s : Int), (∀ y ∈ ys, 0 ≤ f y) → 0 ≤ s → s ≤ most → 0 ≤ ys.foldl (fun s y => mn (s + f y) most) s ∧ ys.foldl (fun s y => mn (s + f y) most) s ≤ most
  | [], _, _, h0, hs => ⟨h0, hs⟩
  | y :: r, s, h, h0, hs => foldl_bd hm r _ (fun z hz => h z (List.mem_cons_of_mem _ hz)) (mn_nonneg (by have := h y List.mem_cons_self; omega) hm) (mn_le _ _)
theorem size_ev (most : Int) (hm0 : 0 ≤ most) (hm : most ≤ 65536) : ∀ (n : Nat) (x : S26), rightB n x = true → bnd n x →
    Ev (fun k => nfa_size.f k x.f0 x.f1 x.f2 x.f3 x.f4 x.f5 most) (sizeF n x most) ∧ 0 ≤ sizeF n x most ∧ sizeF n x most ≤ most
  | 0, _, h, _ => by simp [rightB] at h
  | n + 1, x, h, hb => by
    simp only [rightB, Bool.and_eq_true] at h
    obtain ⟨_, hl, hbs⟩ := hb
    have ih : ∀ y, y ∈ x.f5 → Ev (fun k => nfa_size.f k y.f0 y.f1 y.f2 y.f3 y.f4 y.f5 most) (sizeF n y most) ∧ 0 ≤ sizeF n y most ∧ sizeF n y most ≤ most :=
      fun y hy => size_ev most hm0 hm n y (List.all_eq_true.1 h.2 y hy) (hbs y hy)
    have hf := foldl_bd (f := fun y => sizeF n y most) hm0 x.f5 0 (fun y hy => (ih y hy).2.1) (Int.le_refl _) hm0
    refine ⟨?_, finF_bd h.1 hf.1 hm0⟩
    refine Ev.step (f := fun k => nfa_size.l0 k most 0 x.f5 (x.f5.length : Int) 0 x.f0 x.f1 x.f2 x.f3 x.f4 x.f5) (fun k => by simp only [nfa_size.f]) ?_
    have h4 := size_l0 n x most hm0 hm h.1 hl ih x.f5.length 0 0 (by omega) (Int.le_refl _) hm0
    rw [List.drop_zero] at h4
    exact h4
end Go.Proofs.Ytbgfobdlnlkfiaa.A
/- The builder's build at a choice: forks, parts and jumps, whose ways out are filled in at the end. -/
namespace Go.Proofs.Ytbgfobdlnlkfiaa.A
open Go.RowKit Go.Proofs.YtbgfobdlnlkfiaaW.PrintWords Go.Proofs.YtbgfobdlnlkfiaaW.PrintLast Go.Proofs.YtbgfobdlnlkfiaaW.PrintMore
attribute [local go_sem] max2_int min2_int max_two min_two max_three min_three max_four min_four
set_option linter.unusedVariables false
set_option linter.unusedSimpArgs false


/-- A closure of fork (F = 70) or jump (F = 71) in a row. -/
def encF (F : Nat) (p : Nat × Nat) : Value := .func (.func F) #[] #[.pointer (some ⟨p.1, 0, none⟩), .pointer (some ⟨p.2, 0, none⟩)]
def kF (F : Nat) : Kd (Nat × Nat) := Kd.scalar (encF F) (fun _ => rfl)
/-- A row of closures (its elements of type T), of the states numbered o. -/
structure Outs (F T : Nat) (w : World) (base lo g : Nat) (v : Value) (ps : List (Nat × Nat)) (o : List Nat) : Prop where
  len : ps.length = o.length
  row : (kF F).R T w base (fun _ => True) v ps
  cap : ∀ j, j < o.length → Cap w lo g (ps.getD j (0, 0)).1 (ps.getD j (0, 0)).2 (o.getD j 0 : Nat)
theorem Outs.start (F T : Nat) (w : World) (base lo g : Nat) : Outs F T w base lo g (.slice none 0 0) [] [] := ⟨rfl, Kd.R_nil _ _ _ _ _, fun j h => by simp at h⟩
theorem Outs.below {F T : Nat} {w w1 : World} {base lo g : Nat} {v : Value} {ps : List (Nat × Nat)} {o : List Nat} (h : Outs F T w base lo g v ps o) (hb : Below w.heap.size w w1) : Outs F T w1 base lo g v ps o :=
  ⟨h.len, Kd.R_below h.row hb, fun j hj => (h.cap j hj).below hb⟩
theorem Outs.put {F T : Nat} {w w1 : World} {base b2 lo g : Nat} {v u u1 : Value} {ps : List (Nat × Nat)} {o : List Nat} {xs : List S38} (h : Outs F T w base lo g v ps o) (h63 : T ≠ 63) (h38 : T ≠ 38) (hI : IsB w b2 g u xs) (hp : Put g u u1 w w1) : Outs F T w1 base lo g v ps o := by
  refine ⟨h.len, Kd.R_mono (Kd.R_move (Kd.R_bound h.row) (fun k hk => ?_)) (fun _ _ => trivial), fun j hj => (h.cap j hj).put hI hp⟩
  obtain ⟨_, _, hlt, q, hq, cells, hc⟩ := hk
  have hqT : q = T := by simpa [kF, Kd.scalar] using hq
  subst hqT
  exact hp.block k hlt (blk_ne hc hI.blk h63) (hI.apart hc (Ne.symm h38))
/-- An append to the row of closures: what becomes of the rest. -/
theorem Cap.grown {w w1 : World} {lo g gb gn : Nat} {n : Int} {row : Option Nat} (h : Cap w lo g gb gn n) (hg : w.grownBy w1 row) (hb : some gb ≠ row) (hn : some gn ≠ row) : Cap w1 lo g gb gn n := ⟨blk_grown h.b hg hb, blk_grown h.n hg hn, h.lob, h.lon⟩
theorem Outs.ne {F T : Nat} {w : World} {base lo g i t : Nat} {v : Value} {ps : List (Nat × Nat)} {o : List Nat} {cs : Array Value} (h : Outs F T w base lo g v ps o) (hb : w.heap[i]? = some (.cells cs t (0, 0))) (ht : T ≠ t) : some i ≠ v.ownBlock := Kd.R_ne h.row hb ht
theorem Put.grownNew {g : Nat} {v v1 : Value} {w0 w w1 : World} {row : Option Nat} (h : Put g v v1 w0 w) (hg : w.grownBy w1 row) (hr : ∀ k, row = some k → w0.heap.size ≤ k) : Put g v v1 w0 w1 :=
  ⟨hg.os.trans h.os, hg.tape.trans h.tape, hg.output.trans h.output, Nat.le_trans h.size hg.size, fun k hk h1 h2 => (hg.block k (Nat.lt_of_lt_of_le hk h.size) (fun e => by have := hr k e.symm; omega)).trans (h.block k hk h1 h2), h.own⟩
theorem IsB.grownOther {w w1 : World} {base g T b2 F : Nat} {v u : Value} {xs : List S38} {ps : List (Nat × Nat)} (h : IsB w base g v xs) (hu : (kF F).R T w b2 (fun _ => True) u ps) (hg : w.grownBy w1 u.ownBlock) (h1 : T ≠ 63) (h2 : ∀ q, q ∈ 38 :: k38.E → q ≠ T) : IsB w1 base g v xs :=
  ⟨blk_grown h.blk hg (Kd.R_ne hu h.blk h1), Kd.R_over h.row hu h2 hg, h.low⟩
/-- The row with one closure more. -/
theorem Outs.snoc {F T : Nat} {w w1 : World} {base lo g gb gn n : Nat} {v v1 : Value} {ps : List (Nat × Nat)} {o : List Nat} (h : Outs F T w base lo g v ps o) (h61 : T ≠ 61) (h3 : T ≠ 3) (hC : Cap w lo g gb gn n) (hg : w.grownBy w1 v.ownBlock) (hr : (kF F).R T w1 base (fun _ => True) v1 (ps ++ [(gb, gn)])) : Outs F T w1 base lo g v1 (ps ++ [(gb, gn)]) (o ++ [n]) := by
  refine ⟨by simp [h.len], hr, fun j hj => ?_⟩
  have hj' : j < o.length ∨ j = o.length := by simp at hj; omega
  rcases hj' with hj' | rfl
  · have := (h.cap j hj')
    have h4 := this.grown hg (h.ne this.b h61) (h.ne this.n h3)
    simpa [List.getElem?_append_left hj', List.getElem?_append_left (show j < ps.length by rw [h.len]; exact hj')] using h4
  · have h4 := hC.grown hg (h.ne hC.b h61) (h.ne hC.n h3)
    have h5 : ps.length = o.length := h.len
    simpa [h5, List.getElem?_append_right] using h4
theorem Outs.at_ {F T : Nat} {w : World} {base lo g c j : Nat} {A : Option Addr} {ps : List (Nat × Nat)} {o : List Nat} (h : Outs F T w base lo g (.slice A ps.length c) ps o) (hj : j < o.length) :
    ∃ ad gb gn, A = some ad ∧ w.cell? (ad.add j) = some (.func (.func F) #[] #[.pointer (some ⟨gb, 0, none⟩), .pointer (some ⟨gn, 0, none⟩)]) ∧ Cap w lo g gb gn (o.getD j 0 : Nat) := by
  have h2 : (kF F).C w A ps.length ps := (Kd.R_reads' h.row).2.2
  obtain ⟨ad, cs, he, hl, hK, hc⟩ := Kd.C_get h2 (0, 0) (j : Int) (by omega) (by have := h.len; omega)
  have hK' : cs = [encF F (ps.getD (j : Int).toNat (0, 0))] := hK
  subst hK'
  refine ⟨ad, (ps.getD j (0, 0)).1, (ps.getD j (0, 0)).2, he, ?_, h.cap j hj⟩
  have := hc 0 _ rfl
  simpa [kF, Kd.scalar, encF] using this
theorem Cap.lower {w : World} {lo lo' g gb gn : Nat} {n : Int} (h : Cap w lo g gb gn n) (hl : lo' ≤ lo) : Cap w lo' g gb gn n := ⟨h.b, h.n, Nat.le_trans hl h.lob, Nat.le_trans hl h.lon⟩
theorem info97 : (Try.prog.info? 97).map (fun i => (i.zero, i.size, i.bytes)) = some (some .nilFunc, 1, 8) := by kernel_rfl
theorem blk6 {w : World} {g : Nat} {t : TypeId} {a0 a1 a2 a3 a4 a5 b0 b1 b2 b3 b4 b5 : Value} (h : w.heap[g]? = some (.cells #[a0, a1, a2, a3, a4, a5] t (0, 0))) :
    ((((((w.setCell ⟨g, 0, none⟩ b0).setCell ⟨g, 1, none⟩ b1).setCell ⟨g, 2, none⟩ b2).setCell ⟨g, 3, none⟩ b3).setCell ⟨g, 4, none⟩ b4).setCell ⟨g, 5, none⟩ b5).heap[g]? = some (.cells #[b0, b1, b2, b3, b4, b5] t (0, 0)) :=
  blk_put (blk_put (blk_put (blk_put (blk_put (blk_put h 0 _ rfl) 1 _ rfl) 2 _ rfl) 3 _ rfl) 4 _ rfl) 5 _ rfl
theorem altGo_last {b : S26 → List S38 → List S38} {ys : List S26} {l : List S38} {o : List Nat} {i : Nat} (h : i + 1 = ys.length) : altGo b (ys.drop i) l o = (b (rd_T26 ys (i : Int)) l, o) := by
  rw [List.drop_eq_getElem_cons (by omega), List.drop_eq_nil_of_le (by omega), rd26 (by omega)]
  rfl
theorem altGo_next {b : S26 → List S38 → List S38} {ys : List S26} {l : List S38} {o : List Nat} {i : Nat} (h : i + 1 < ys.length) :
    altGo b (ys.drop i) l o = altGo b (ys.drop (i + 1)) (setBF (forkF (b (rd_T26 ys (i : Int)) (forkF l))) l.length) (o ++ [(b (rd_T26 ys (i : Int)) (forkF l)).length]) := by
  rw [List.drop_eq_getElem_cons (show i < ys.length by omega), List.drop_eq_getElem_cons h, rd26 (by omega)]
  rfl
theorem outsF_step {l : List S38} {o : List Nat} {m : Nat} (h : m < o.length) : outsF l (o.take (m + 1)) = setABF (outsF l (o.take m)) (o.getD m 0) (outsF l (o.take m)).length := by
  unfold outsF
  rw [List.take_succ_eq_append_getElem h, List.foldl_append]
  simp [h]
set_option maxHeartbeats 16000000 in
set_option maxRecDepth 100000 in
theorem build_alt (n : Nat) (ih : BuildAt n) (x : S26) (A1 : Option Addr) (c1 : Nat) (A5 : Option Addr) (c5 : Nat) (w0 : World) (base g : Nat) (v : Value) (xs : List S38) (w : World) (hr1 : k54.C w0 A1 x.f1.length x.f1) (hc1 : x.f1.length ≤ c1) (hr5 : k26.C w0 A5 x.f5.length x.f5) (hc5 : x.f5.length ≤ c5)
    (hB : Below w0.heap.size w0 w) (hw0 : w0.heap.size ≤ base) (hI : IsB w base g v xs) (hbase : base ≤ w.heap.size) (n2 : (x.f0 == 2) = false) (n6 : (x.f0 == 6) = false) (n7 : (x.f0 == 7) = false) (n8 : (x.f0 == 8) = false) (n9 : (x.f0 == 9) = false) (n3 : (x.f0 == 3) = false) (kk : (x.f0 == 4) = true)
    (hs : x.f5.all (rightB n) = true) (hbs : ∀ y ∈ x.f5, bnd n y) (h2 : 2 ≤ x.f5.length) (hm : (altF (buildF n) x.f5 xs).length ≤ 1000000) (hmx : x.f5.length ≤ 9223372036854775807) :
    Calls Try.prog 26 #[.pointer (some ⟨g, 0, none⟩), .agg #[.int .i64 x.f0, .slice A1 x.f1.length c1, .int .i64 x.f2, .int .i64 x.f3, .bool x.f4, .slice A5 x.f5.length c5]] w fun e w' => e = .returned (.tuple #[]) ∧ ∃ v', IsB w' base g v' (altF (buildF n) x.f5 xs) ∧ Put g v v' w w' := by
  have HX := Aside0.mk (show g < w.heap.size from hI.lt)
  have hu26 := Try.underlying26; have hu38 := Try.underlying38; have HI := Aside0.mk hI; have HB := Aside0.mk hB; have HZ0 := hB.size; have HR1 := Aside0.mk hr1; have HC1 := Aside0.mk hc1; have HR5 := Aside0.mk hr5; have HC5 := Aside0.mk hc5; clear hI hB hr1 hc1 hr5 hc5
  have HS := Aside0.mk hs
  have HBS := Aside0.mk hbs
  have HM := Aside0.mk hm
  have IH := Aside0.mk ih
  clear hs hm ih hbs
  go_enter Try.func26, Try.ntmps26
  go_wp2_with (first | ((with_reducible refine gate_dst (N := 3) rfl ?_); refine box_event ?hg (N := 3) ?hd (cs := #[.int .i64 x.f0, .slice A1 x.f1.length c1, .int .i64 x.f2, .int .i64 x.f3, .bool x.f4, .slice A5 x.f5.length c5]) (t := 26) ?hr ?_; (case hd => rfl); (case hg => rfl); (case hr => first | (go_simp; done) | (go_simp; rfl)); intro gx hgx_ w1 hbox hb; have HG_gx := Aside0.mk hgx_; clear hgx_; have BKX := Aside0.mk hbox; have HBX := Aside0.mk hb; have HIX := Aside0.mk (HI.out.below hb); have HZX := hb.size; have HB0 := Aside0.mk (below_then HB.out HZ0 hb); clear hbox hb; have hx0 : w1.cell? ⟨gx, 0, none⟩ = some (.int .i64 x.f0) := (blk_cell BKX.out 0).trans rfl; have hx1 : w1.cell? ⟨gx, 1, none⟩ = some (.slice A1 x.f1.length c1) := (blk_cell BKX.out 1).trans rfl; have hx2 : w1.cell? ⟨gx, 2, none⟩ = some (.int .i64 x.f2) := (blk_cell BKX.out 2).trans rfl; have hx3 : w1.cell? ⟨gx, 3, none⟩ = some (.int .i64 x.f3) := (blk_cell BKX.out 3).trans rfl; have hx4 : w1.cell? ⟨gx, 4, none⟩ = some (.bool x.f4) := (blk_cell BKX.out 4).trans rfl; have hx5 : w1.cell? ⟨gx, 5, none⟩ = some (.slice A5 x.f5.length c5) := (blk_cell BKX.out 5).trans rfl ))
  go_loopg [6, 60] x.f5.length (fun kq v6 v60 w' => ∃ (i : Nat) (l : List S38) (o : List Nat) (ps : List (Nat × Nat)) (v1 : Value), v60 = .int .i64 i ∧ Aside0 (i < x.f5.length ∧ kq = x.f5.length - i) ∧ Aside0 (altGo (buildF n) (x.f5.drop i) l o = altGo (buildF n) x.f5 xs []) ∧ Aside0 (Outs 71 97 w' w.heap.size w.heap.size g v6 ps o) ∧ Aside0 (o.length ≤ l.length ∧ ∀ j, j < o.length → o.getD j 0 < l.length) ∧ Aside0 (IsB w' base g v1 l) ∧ Aside0 (Put g v v1 w w') ∧ Aside0 (Below w0.heap.size w0 w') ∧ Aside0 (w'.heap[gx]? = some (.cells #[.int .i64 x.f0, .slice A1 x.f1.length c1, .int .i64 x.f2, .int .i64 x.f3, .bool x.f4, .slice A5 x.f5.length c5] 26 (0, 0))))
  case atStart => exact ⟨0, xs, [], [], v, rfl, ⟨by omega, by omega⟩, ⟨rfl⟩, ⟨Outs.start _ _ _ _ _ _⟩, ⟨by simp⟩, ⟨HIX.out⟩, ⟨Put.of_below HBX.out⟩, ⟨HB0.out⟩, BKX⟩
  case round =>
    clear hx0 hx1 hx2 hx3 hx4 hx5 BKX
    obtain ⟨i, l, o, ps, v1, rfl, HI1, HAG, HO, HOL, HIW, HPW, HBW, BKX⟩ := hrel
    obtain ⟨A6, c6, rfl⟩ := Kd.R_slice HO.out.row
    obtain ⟨wo, hwo⟩ : ∃ wo : World, wo = wr := ⟨_, rfl⟩
    subst hwo
    have hlt : i < x.f5.length := HI1.out.1
    have hi0 : 0 ≤ (i : Int) := by omega
    have hi1 : (i : Int) < (x.f5.length : Int) := by omega
    have d1 : decide ((i : Int) < (x.f5.length : Int)) = true := decide_eq_true hi1
    have HK := Aside0.mk (show rightB n (rd_T26 x.f5 (i : Int)) = true from all_rd HS.out hlt)
    have HBD := Aside0.mk (show bnd n (rd_T26 x.f5 (i : Int)) from mem_rd HBS.out hlt)
    have hx0 : wo.cell? ⟨gx, 0, none⟩ = some (.int .i64 x.f0) := (blk_cell BKX.out 0).trans rfl; have hx1 : wo.cell? ⟨gx, 1, none⟩ = some (.slice A1 x.f1.length c1) := (blk_cell BKX.out 1).trans rfl; have hx2 : wo.cell? ⟨gx, 2, none⟩ = some (.int .i64 x.f2) := (blk_cell BKX.out 2).trans rfl; have hx3 : wo.cell? ⟨gx, 3, none⟩ = some (.int .i64 x.f3) := (blk_cell BKX.out 3).trans rfl; have hx4 : wo.cell? ⟨gx, 4, none⟩ = some (.bool x.f4) := (blk_cell BKX.out 4).trans rfl; have hx5 : wo.cell? ⟨gx, 5, none⟩ = some (.slice A5 x.f5.length c5) := (blk_cell BKX.out 5).trans rfl
    obtain ⟨ad, A1_, c1_, A5_, c5_, e_, hx0_, hx1_, hx2_, hx3_, hx4_, hx5_, hl1_, hi1_, hl5_, hi5_⟩ := at_T26 HR5.out (i : Int) (by omega) (by omega); cases e_; simp only [Int.toNat_natCast] at hx0_ hx1_ hx2_ hx3_ hx4_ hx5_; replace hx0_ := (HBW.out.cell (World.block_lt_of_cell? w0 _ hx0_)).trans hx0_; replace hx1_ := (HBW.out.cell (World.block_lt_of_cell? w0 _ hx1_)).trans hx1_; replace hx2_ := (HBW.out.cell (World.block_lt_of_cell? w0 _ hx2_)).trans hx2_; replace hx3_ := (HBW.out.cell (World.block_lt_of_cell? w0 _ hx3_)).trans hx3_; replace hx4_ := (HBW.out.cell (World.block_lt_of_cell? w0 _ hx4_)).trans hx4_; replace hx5_ := (HBW.out.cell (World.block_lt_of_cell? w0 _ hx5_)).trans hx5_
    by_cases hla : i + 1 = x.f5.length
    · have e1 : ((i : Int) == (x.f5.length : Int) - 1) = true := by rw [beq_iff_eq]; omega
      have HLE := Aside0.mk (show (buildF n (rd_T26 x.f5 (i : Int)) l).length ≤ 1000000 from by have h := HM.out; unfold altF at h; rw [outsF_length, ← HAG.out, altGo_last hla] at h; exact h)
      have HGO := Aside0.mk (HAG.out.symm.trans (altGo_last hla))
      go_wp2_with (first | ((with_reducible refine gate_dst (N := 8) rfl ?_); refine box_event ?hg (N := 8) ?hd (cs := #[.int .i64 0, .slice none 0 0, .int .i64 0, .int .i64 0, .bool false, .slice none 0 0]) (t := 26) ?hr ?_; (case hd => rfl); (case hg => rfl); (case hr => first | (go_simp; done) | (go_simp; rfl)); intro gy hgx_ wy hbox hb; have HG_gy := Aside0.mk hgx_; clear hgx_; have HBY := Aside0.mk hb; have GEY : Aside0 (wo.heap.size ≤ gy) := ⟨by have := HG_gy.out; omega⟩; have hy0 : wy.cell? ⟨gy, 0, none⟩ = some (.int .i64 0) := (blk_cell hbox 0).trans rfl; have hy1 : wy.cell? ⟨gy, 1, none⟩ = some (.slice none 0 0) := (blk_cell hbox 1).trans rfl; have hy2 : wy.cell? ⟨gy, 2, none⟩ = some (.int .i64 0) := (blk_cell hbox 2).trans rfl; have hy3 : wy.cell? ⟨gy, 3, none⟩ = some (.int .i64 0) := (blk_cell hbox 3).trans rfl; have hy4 : wy.cell? ⟨gy, 4, none⟩ = some (.bool false) := (blk_cell hbox 4).trans rfl; have hy5 : wy.cell? ⟨gy, 5, none⟩ = some (.slice none 0 0) := (blk_cell hbox 5).trans rfl; have hyf0 := blk_frozen hbox 0; have hyf1 := blk_frozen hbox 1; have hyf2 := blk_frozen hbox 2; have hyf3 := blk_frozen hbox 3; have hyf4 := blk_frozen hbox 4; have hyf5 := blk_frozen hbox 5; have HYB := Aside0.mk hbox; clear hb hbox; replace hx0_ := (HBY.out.cell (World.block_lt_of_cell? _ _ hx0_)).trans hx0_; replace hx1_ := (HBY.out.cell (World.block_lt_of_cell? _ _ hx1_)).trans hx1_; replace hx2_ := (HBY.out.cell (World.block_lt_of_cell? _ _ hx2_)).trans hx2_; replace hx3_ := (HBY.out.cell (World.block_lt_of_cell? _ _ hx3_)).trans hx3_; replace hx4_ := (HBY.out.cell (World.block_lt_of_cell? _ _ hx4_)).trans hx4_; replace hx5_ := (HBY.out.cell (World.block_lt_of_cell? _ _ hx5_)).trans hx5_; replace hx0 := (HBY.out.cell (World.block_lt_of_cell? _ _ hx0)).trans hx0; replace hx1 := (HBY.out.cell (World.block_lt_of_cell? _ _ hx1)).trans hx1; replace hx2 := (HBY.out.cell (World.block_lt_of_cell? _ _ hx2)).trans hx2; replace hx3 := (HBY.out.cell (World.block_lt_of_cell? _ _ hx3)).trans hx3; replace hx4 := (HBY.out.cell (World.block_lt_of_cell? _ _ hx4)).trans hx4; replace hx5 := (HBY.out.cell (World.block_lt_of_cell? _ _ hx5)).trans hx5; have hgne : gx ≠ gy := by have := blk_lt BKX.out; have := HG_gy.out; omega ) | (go_at_call 26; refine (IH.out (rd_T26 x.f5 (i : Int)) A1_ c1_ A5_ c5_ w0 base g v1 _ _ hi1_ hl1_ hi5_ hl5_ ?sB hw0 ?sI ?sb HK.out HBD.out HLE.out).mono ?_; (case sB => exact below_then HBW.out HBW.out.size (by repeat (first | (with_reducible exact HBY.out) | (with_reducible refine below_set ?_ GEY.out)))); (case sI => exact HIW.out.below (by repeat (first | (with_reducible exact HBY.out) | (with_reducible refine below_set ?_ GEY.out)))); (case sb => exact Nat.le_trans (Nat.le_of_lt (Nat.lt_of_le_of_lt HIW.out.low HIW.out.lt)) (Below.size (B := wo.heap.size) (by repeat (first | (with_reducible exact HBY.out) | (with_reducible refine below_set ?_ GEY.out))))); rintro e w4 ⟨rfl, v4, hI4, hP4⟩; have HO4 := Aside0.mk ((HO.out.below (by repeat (first | (with_reducible exact HBY.out) | (with_reducible refine below_set ?_ GEY.out)))).put (by decide) (by decide) (HIW.out.below (by repeat (first | (with_reducible exact HBY.out) | (with_reducible refine below_set ?_ GEY.out)))) hP4); have HI4 := Aside0.mk hI4; have HP4 := Aside0.mk ((HPW.out.below (by repeat (first | (with_reducible exact HBY.out) | (with_reducible refine below_set ?_ GEY.out)))).trans hP4); clear hI4 hP4))
      go_loopg [89] o.length (fun kq2 v89 w5 => ∃ (m : Nat), v89 = .int .i64 m ∧ Aside0 (m ≤ o.length ∧ kq2 = o.length - m) ∧ Aside0 (IsB w5 base g v4 (outsF (buildF n (rd_T26 x.f5 (i : Int)) l) (o.take m))) ∧ Aside0 (Put g v v4 w w5) ∧ Aside0 (Outs 71 97 w5 w.heap.size w.heap.size g (.slice A6 ps.length c6) ps o))
      case atStart => exact ⟨0, rfl, ⟨by omega, by omega⟩, HI4, HP4, HO4⟩
      case round =>
        clear HI4 HP4 HO4 HO HIW HPW
        obtain ⟨m, rfl, HM5, HI5, HP5, HO5⟩ := hrel
        have hml : (outsF (buildF n (rd_T26 x.f5 (i : Int)) l) (o.take m)).length = (buildF n (rd_T26 x.f5 (i : Int)) l).length := outsF_length _ _
        have hpl := HO5.out.len
        by_cases hlm : m < o.length
        · have hm0 : 0 ≤ (m : Int) := by omega
          have hm1 : (m : Int) < (ps.length : Int) := by omega
          have d2 : decide ((m : Int) < (ps.length : Int)) = true := decide_eq_true hm1
          obtain ⟨ad6, gb6, gn6, e6, hco, hcp⟩ := HO5.out.at_ hlm
          cases e6
          have HCP := Aside0.mk hcp
          clear hcp
          obtain ⟨A4, c4, e4, _⟩ := HI5.out.slice
          rw [hml] at e4
          subst e4
          have hcg : wr.cell? ⟨g, 0, none⟩ = some (.slice A4 (buildF n (rd_T26 x.f5 (i : Int)) l).length c4) := (blk_cell HI5.out.blk 0).trans rfl
          have hoj : o.getD m 0 < (outsF (buildF n (rd_T26 x.f5 (i : Int)) l) (o.take m)).length := by
            have h1 := HOL.out.2 m hlm
            have h2 := buildF_le n (rd_T26 x.f5 (i : Int)) l
            omega
          have hob : (m : Int) ≤ 1000000 := by have h1 := HOL.out.1; have h2 := buildF_le n (rd_T26 x.f5 (i : Int)) l; have h3 := HLE.out; omega
          have HST := Aside0.mk (outsF_step (l := buildF n (rd_T26 x.f5 (i : Int)) l) hlm)
          have HML := Aside0.mk hml
          have HLM := Aside0.mk hlm
          have HPL := Aside0.mk hpl
          clear hml hpl
          obtain ⟨nj, hnj⟩ : ∃ nj, nj = o.getD m 0 := ⟨_, rfl⟩
          rw [← hnj] at hoj
          have HNJ := Aside0.mk hnj
          clear hnj
          replace HCP := HNJ.out ▸ HCP.out
          have HCQ := Aside0.mk HCP
          clear HCP
          go_wp2_with (first | (go_at_call 71; refine (jump1_calls w.heap.size base g gb6 gn6 nj ((buildF n (rd_T26 x.f5 (i : Int)) l).length : Int) _ _ wr HI5.out HCQ.out hoj (by have := HML.out; have := HLE.out; omega)).mono ?_; rintro e w6 ⟨rfl, hI6, hP6⟩; have HO6 := Aside0.mk (HO5.out.put (by decide) (by decide) HI5.out hP6); have HI6 := Aside0.mk hI6; have HP6 := Aside0.mk (HP5.out.trans hP6); clear hI6 hP6))
          go_roundg (o.length - (m + 1))
          case measure => have := HM5.out; omega
          case rel => exact ⟨m + 1, by go_num, ⟨HLM.out, rfl⟩, ⟨by rw [HST.out, HML.out, ← HNJ.out]; exact HI6.out⟩, HP6, HO6⟩
        · have d2 : decide ((m : Int) < (ps.length : Int)) = false := decide_eq_false (by omega)
          have HFIN := Aside0.mk (show outsF (buildF n (rd_T26 x.f5 (i : Int)) l) (o.take m) = altF (buildF n) x.f5 xs from by have h1 := HM5.out; have h2 : m = o.length := (by omega); unfold altF; rw [HGO.out, h2, List.take_length])
          have hnot : ps.length ≤ m := by omega
          clear hml hpl
          go_wp2
          go_end0
          exact ⟨rfl, v4, by rw [← HFIN.out]; exact HI5.out, HP5.out⟩
    · have e1 : ((i : Int) == (x.f5.length : Int) - 1) = false := by rw [beq_eq_false_iff_ne]; omega
      have hnx : i + 1 < x.f5.length := by omega
      have HGO := Aside0.mk ((altGo_next hnx).symm.trans HAG.out)
      have HL4 := Aside0.mk (show (forkF (buildF n (rd_T26 x.f5 (i : Int)) (forkF l))).length ≤ 1000000 from by have h := HM.out; unfold altF at h; rw [outsF_length, ← HGO.out] at h; have h2 := altGo_le (buildF_le n) (x.f5.drop (i + 1)) (setBF (forkF (buildF n (rd_T26 x.f5 (i : Int)) (forkF l))) l.length) (o ++ [(buildF n (rd_T26 x.f5 (i : Int)) (forkF l)).length]); rw [setBF_length] at h2; omega)
      have HL2 := Aside0.mk (show (buildF n (rd_T26 x.f5 (i : Int)) (forkF l)).length ≤ 1000000 from by have h := HL4.out; rw [forkF_length] at h; omega)
      have HL1 := Aside0.mk (show l.length + 1 ≤ (buildF n (rd_T26 x.f5 (i : Int)) (forkF l)).length from by have h := buildF_le n (rd_T26 x.f5 (i : Int)) (forkF l); rw [forkF_length] at h; omega)
      have HRB := Aside0.mk (show ∀ k, v.ownBlock = some k → w0.heap.size ≤ k from fun k hk => Nat.le_trans hw0 (Kd.R_base HI.out.row k hk))
      have HGL := Aside0.mk (show w0.heap.size ≤ g from Nat.le_trans hw0 HI.out.low)
      go_wp2_with (first | ((with_reducible refine gate_dst (N := 8) rfl ?_); refine box_event ?hg (N := 8) ?hd (cs := #[.int .i64 0, .slice none 0 0, .int .i64 0, .int .i64 0, .bool false, .slice none 0 0]) (t := 26) ?hr ?_; (case hd => rfl); (case hg => rfl); (case hr => first | (go_simp; done) | (go_simp; rfl)); intro gy hgx_ wy hbox hb; have HG_gy := Aside0.mk hgx_; clear hgx_; have HBY := Aside0.mk hb; have GEY : Aside0 (wo.heap.size ≤ gy) := ⟨by have := HG_gy.out; omega⟩; have hy0 : wy.cell? ⟨gy, 0, none⟩ = some (.int .i64 0) := (blk_cell hbox 0).trans rfl; have hy1 : wy.cell? ⟨gy, 1, none⟩ = some (.slice none 0 0) := (blk_cell hbox 1).trans rfl; have hy2 : wy.cell? ⟨gy, 2, none⟩ = some (.int .i64 0) := (blk_cell hbox 2).trans rfl; have hy3 : wy.cell? ⟨gy, 3, none⟩ = some (.int .i64 0) := (blk_cell hbox 3).trans rfl; have hy4 : wy.cell? ⟨gy, 4, none⟩ = some (.bool false) := (blk_cell hbox 4).trans rfl; have hy5 : wy.cell? ⟨gy, 5, none⟩ = some (.slice none 0 0) := (blk_cell hbox 5).trans rfl; have hyf0 := blk_frozen hbox 0; have hyf1 := blk_frozen hbox 1; have hyf2 := blk_frozen hbox 2; have hyf3 := blk_frozen hbox 3; have hyf4 := blk_frozen hbox 4; have hyf5 := blk_frozen hbox 5; have HYB := Aside0.mk hbox; clear hb hbox; replace hx0_ := (HBY.out.cell (World.block_lt_of_cell? _ _ hx0_)).trans hx0_; replace hx1_ := (HBY.out.cell (World.block_lt_of_cell? _ _ hx1_)).trans hx1_; replace hx2_ := (HBY.out.cell (World.block_lt_of_cell? _ _ hx2_)).trans hx2_; replace hx3_ := (HBY.out.cell (World.block_lt_of_cell? _ _ hx3_)).trans hx3_; replace hx4_ := (HBY.out.cell (World.block_lt_of_cell? _ _ hx4_)).trans hx4_; replace hx5_ := (HBY.out.cell (World.block_lt_of_cell? _ _ hx5_)).trans hx5_; replace hx0 := (HBY.out.cell (World.block_lt_of_cell? _ _ hx0)).trans hx0; replace hx1 := (HBY.out.cell (World.block_lt_of_cell? _ _ hx1)).trans hx1; replace hx2 := (HBY.out.cell (World.block_lt_of_cell? _ _ hx2)).trans hx2; replace hx3 := (HBY.out.cell (World.block_lt_of_cell? _ _ hx3)).trans hx3; replace hx4 := (HBY.out.cell (World.block_lt_of_cell? _ _ hx4)).trans hx4; replace hx5 := (HBY.out.cell (World.block_lt_of_cell? _ _ hx5)).trans hx5; have hgne : gx ≠ gy := by have := blk_lt BKX.out; have := HG_gy.out; omega ) | (go_at_call 51; refine (fork_calls base g v1 l _ ?sI ?sb (by have := HL2.out; have := HL1.out; omega)).mono ?_; (case sI => exact HIW.out.below (by repeat (first | (with_reducible exact HBY.out) | (with_reducible refine below_set ?_ GEY.out)))); (case sb => exact Nat.le_trans (Nat.le_of_lt (Nat.lt_of_le_of_lt HIW.out.low HIW.out.lt)) (Below.size (B := wo.heap.size) (by repeat (first | (with_reducible exact HBY.out) | (with_reducible refine below_set ?_ GEY.out))))); rintro e w4 ⟨gb4, gn4, v4, rfl, hC4, hI4, hP4⟩; have HC4 := Aside0.mk hC4; have HO4 := Aside0.mk ((HO.out.below (by repeat (first | (with_reducible exact HBY.out) | (with_reducible refine below_set ?_ GEY.out)))).put (by decide) (by decide) (HIW.out.below (by repeat (first | (with_reducible exact HBY.out) | (with_reducible refine below_set ?_ GEY.out)))) hP4); have HI4 := Aside0.mk (show IsB w4 base g v4 (forkF l) from hI4); have HY4 := Aside0.mk (hP4.blk (blk6 HYB.out) (by have := HIW.out.lt; have := HG_gy.out; omega) (fun he => by have h1 := Kd.R_lt HIW.out.row gy he.symm; have := HG_gy.out; omega)); have HX4 := Aside0.mk (hP4.blk (blk_below BKX.out (by repeat (first | (with_reducible exact HBY.out) | (with_reducible refine below_set ?_ GEY.out)))) (blk_ne BKX.out HIW.out.blk (by decide)) (HIW.out.apart BKX.out (by decide))); have HP4 := Aside0.mk ((HPW.out.below (by repeat (first | (with_reducible exact HBY.out) | (with_reducible refine below_set ?_ GEY.out)))).trans hP4); have HB4 := Aside0.mk (HP4.out.old HB.out HZ0 HGL.out HRB.out); clear hC4 hI4 hP4; have hz0 : w4.cell? ⟨gy, 0, none⟩ = some (.int .i64 (rd_T26 x.f5 (i : Int)).f0) := (blk_cell HY4.out 0).trans rfl; have hz1 : w4.cell? ⟨gy, 1, none⟩ = some (.slice A1_ (rd_T26 x.f5 (i : Int)).f1.length c1_) := (blk_cell HY4.out 1).trans rfl; have hz2 : w4.cell? ⟨gy, 2, none⟩ = some (.int .i64 (rd_T26 x.f5 (i : Int)).f2) := (blk_cell HY4.out 2).trans rfl; have hz3 : w4.cell? ⟨gy, 3, none⟩ = some (.int .i64 (rd_T26 x.f5 (i : Int)).f3) := (blk_cell HY4.out 3).trans rfl; have hz4 : w4.cell? ⟨gy, 4, none⟩ = some (.bool (rd_T26 x.f5 (i : Int)).f4) := (blk_cell HY4.out 4).trans rfl; have hz5 : w4.cell? ⟨gy, 5, none⟩ = some (.slice A5_ (rd_T26 x.f5 (i : Int)).f5.length c5_) := (blk_cell HY4.out 5).trans rfl) | (go_at_call 26; refine (IH.out (rd_T26 x.f5 (i : Int)) A1_ c1_ A5_ c5_ w0 base g v4 _ w4 hi1_ hl1_ hi5_ hl5_ HB4.out hw0 HI4.out (by have := HI4.out.lt; have := HI4.out.low; omega) HK.out HBD.out HL2.out).mono ?_; rintro e w5 ⟨rfl, v5, hI5, hP5⟩; have HC5 := Aside0.mk (HC4.out.put HI4.out hP5); have HO5 := Aside0.mk (HO4.out.put (by decide) (by decide) HI4.out hP5); have HX5 := Aside0.mk (hP5.blk HX4.out (blk_ne HX4.out HI4.out.blk (by decide)) (HI4.out.apart HX4.out (by decide))); have HI5 := Aside0.mk hI5; have HP5 := Aside0.mk (HP4.out.trans hP5); clear hI5 hP5) | (go_at_call 52; refine (jump_calls base g v5 _ w5 HI5.out (by have := HI5.out.lt; have := HI5.out.low; omega) HL2.out).mono ?_; rintro e w6 ⟨gb6, gn6, v6, rfl, hC6, hI6, hP6⟩; have HC6 := Aside0.mk (HC5.out.put HI5.out hP6); have HO6 := Aside0.mk (HO5.out.put (by decide) (by decide) HI5.out hP6); have HX6 := Aside0.mk (hP6.blk HX5.out (blk_ne HX5.out HI5.out.blk (by decide)) (HI5.out.apart HX5.out (by decide))); have HI6 := Aside0.mk (show IsB w6 base g v6 (forkF (buildF n (rd_T26 x.f5 (i : Int)) (forkF l))) from hI6); have HP6 := Aside0.mk (HP5.out.trans hP6); have HJ6 := Aside0.mk (hC6.lower (lo' := w.heap.size) HP5.out.size); clear hC6 hI6 hP6) | ((with_reducible refine gate_dst (N := 83) rfl ?_); refine Kd.R_append (kF 71) (w0 := w6) w.heap.size (by rfl) _ _ 95 97 _ 8 (by rfl) Try.underlying95 info97 rfl (by decide) (by decide) (.slice A6 ps.length c6) ps (gb6, gn6) [encF 71 (gb6, gn6)] (fun _ => True) (fun _ => False) (by rfl) (by rfl) (by rfl) (fun _ h => h.elim) (fun _ _ => trivial) HO6.out.row (Below.refl _ _) HP6.out.size (by have h1 := HO6.out.len; have h2 := HOL.out.1; have h3 := HL1.out; have h4 := HL2.out; omega) ?_; intro u7 w7 hR7 hB7 hG7 hat7; have HO7 := Aside0.mk (HO6.out.snoc (by decide) (by decide) HJ6.out hG7 hR7); have HI7 := Aside0.mk (HI6.out.grownOther HO6.out.row hG7 (by decide) (by decide)); have HC7 := Aside0.mk (HC6.out.grown hG7 (HO6.out.ne HC6.out.b (by decide)) (HO6.out.ne HC6.out.n (by decide))); have HX7 := Aside0.mk (blk_grown HX6.out hG7 (HO6.out.ne HX6.out (by decide))); have HP7 := Aside0.mk (HP6.out.grownNew hG7 (Kd.R_base HO6.out.row)); clear hR7 hB7 hG7 hat7) | (go_at_call 70; refine (fork1_calls _ base g gb4 gn4 l.length v6 _ w7 HI7.out HC7.out (by rw [forkF_length]; have := HL1.out; omega) HL4.out).mono ?_; rintro e w8 ⟨rfl, hI8, hP8⟩; have HO8 := Aside0.mk (HO7.out.put (by decide) (by decide) HI7.out hP8); have HX8 := Aside0.mk (hP8.blk HX7.out (blk_ne HX7.out HI7.out.blk (by decide)) (HI7.out.apart HX7.out (by decide))); have HI8 := Aside0.mk (show IsB w8 base g v6 (setBF (forkF (buildF n (rd_T26 x.f5 (i : Int)) (forkF l))) l.length) from hI8); have HP8 := Aside0.mk (HP7.out.trans hP8); clear hI8 hP8))
      have HOB := Aside0.mk (show (o ++ [(buildF n (rd_T26 x.f5 (i : Int)) (forkF l)).length]).length ≤ (setBF (forkF (buildF n (rd_T26 x.f5 (i : Int)) (forkF l))) l.length).length ∧ ∀ j, j < (o ++ [(buildF n (rd_T26 x.f5 (i : Int)) (forkF l)).length]).length → (o ++ [(buildF n (rd_T26 x.f5 (i : Int)) (forkF l)).length]).getD j 0 < (setBF (forkF (buildF n (rd_T26 x.f5 (i : Int)) (forkF l))) l.length).length from by have h1 := HOL.out; have h2 := HL1.out; rw [setBF_length, forkF_length]; refine ⟨by simp; omega, fun j hj => ?_⟩; rcases Nat.lt_or_ge j o.length with hjl | hjl; (have h3 := h1.2 j hjl; simp only [List.getD_eq_getElem?_getD, List.getElem?_append_left hjl] at h3 ⊢; omega); (simp at hj; obtain rfl : j = o.length := (by omega); simp))
      go_roundg (x.f5.length - (i + 1))
      case measure => have := HI1.out; omega
      case rel => exact ⟨i + 1, _, _, _, v6, by go_num, ⟨hnx, rfl⟩, HGO, HO8, HOB, HI8, HP8, ⟨HP8.out.old HB.out HZ0 HGL.out HRB.out⟩, HX8⟩
end Go.Proofs.Ytbgfobdlnlkfiaa.A
/- The builder's repeat: a part some times, then without an end, or up to a number. -/
namespace Go.Proofs.Ytbgfobdlnlkfiaa.A
open Go.RowKit Go.Proofs.YtbgfobdlnlkfiaaW.PrintWords Go.Proofs.YtbgfobdlnlkfiaaW.PrintLast Go.Proofs.YtbgfobdlnlkfiaaW.PrintMore
attribute [local go_sem] max2_int min2_int max_two min_two max_three min_three max_four min_four
set_option linter.unusedVariables false
set_option linter.unusedSimpArgs false


theorem info1 : (Try.prog.info? 1).map (fun i => (i.zero, i.size, i.bytes)) = some (some .nilFunc, 1, 8) := by kernel_rfl
/-- A tree's cells at an address. -/
structure Sub0 (w : World) (ad : Addr) (y : S26) (A1 : Option Addr) (c1 : Nat) (A5 : Option Addr) (c5 : Nat) : Prop where
  a0 : w.cell? ad = some (.int .i64 y.f0)
  a1 : w.cell? ⟨ad.block, ad.off + 1, none⟩ = some (.slice A1 y.f1.length c1)
  a2 : w.cell? ⟨ad.block, ad.off + 2, none⟩ = some (.int .i64 y.f2)
  a3 : w.cell? ⟨ad.block, ad.off + 3, none⟩ = some (.int .i64 y.f3)
  a4 : w.cell? ⟨ad.block, ad.off + 4, none⟩ = some (.bool y.f4)
  a5 : w.cell? ⟨ad.block, ad.off + 5, none⟩ = some (.slice A5 y.f5.length c5)
theorem Sub0.move {w w1 : World} {ad : Addr} {y : S26} {A1 A5 : Option Addr} {c1 c5 : Nat} (h : Sub0 w ad y A1 c1 A5 c5) (hb : Below w.heap.size w w1) : Sub0 w1 ad y A1 c1 A5 c5 :=
  ⟨pw_cell_below hb h.a0, pw_cell_below hb h.a1, pw_cell_below hb h.a2, pw_cell_below hb h.a3, pw_cell_below hb h.a4, pw_cell_below hb h.a5⟩
theorem at0_T26 {w : World} {A : Option Addr} {n : Nat} {xs : List S26} (h : Kd.C k26 w A n xs) (h1 : 0 < n) : ∃ ad A1 c1 A5 c5, A = some ad ∧ Sub0 w ad (rd_T26 xs 0) A1 c1 A5 c5 ∧ (rd_T26 xs 0).f1.length ≤ c1 ∧ k54.C w A1 (rd_T26 xs 0).f1.length (rd_T26 xs 0).f1 ∧ (rd_T26 xs 0).f5.length ≤ c5 ∧ k26.C w A5 (rd_T26 xs 0).f5.length (rd_T26 xs 0).f5 := by
  obtain ⟨ad, A1, c1, A5, c5, e, x0, x1, x2, x3, x4, x5, l1, i1, l5, i5⟩ := at_T26 h 0 (by omega) (by omega)
  simp [Addr.add] at x0 x1 x2 x3 x4 x5
  exact ⟨ad, A1, c1, A5, c5, e, ⟨x0, x1, x2, x3, x4, x5⟩, l1, i1, l5, i5⟩
set_option maxHeartbeats 16000000 in
set_option maxRecDepth 100000 in
theorem repeat_star_z (n : Nat) (ih : BuildAt n) (x : S26) (A1 : Option Addr) (c1 : Nat) (A5 : Option Addr) (c5 : Nat) (w0 : World) (base g : Nat) (v : Value) (xs : List S38) (w : World) (hr1 : k54.C w0 A1 x.f1.length x.f1) (hc1 : x.f1.length ≤ c1) (hr5 : k26.C w0 A5 x.f5.length x.f5) (hc5 : x.f5.length ≤ c5)
    (hB : Below w0.heap.size w0 w) (hw0 : w0.heap.size ≤ base) (hI : IsB w base g v xs) (hbase : base ≤ w.heap.size) (hs : rightB n (rd_T26 x.f5 0) = true) (hbd : bnd n (rd_T26 x.f5 0)) (hl1 : 0 < x.f5.length) (h20 : 0 ≤ x.f2) (h21 : x.f2 ≤ 1000) (h3 : x.f3 < 0) (hz : (sizeF n (rd_T26 x.f5 0) 1 == 0) = true) (hm : (starF (buildF n (rd_T26 x.f5 0)) (timesF (buildF n (rd_T26 x.f5 0)) 0 xs)).length ≤ 1000000) :
    Calls Try.prog 53 #[.pointer (some ⟨g, 0, none⟩), .agg #[.int .i64 x.f0, .slice A1 x.f1.length c1, .int .i64 x.f2, .int .i64 x.f3, .bool x.f4, .slice A5 x.f5.length c5]] w fun e w' => e = .returned (.tuple #[]) ∧ ∃ v', IsB w' base g v' (starF (buildF n (rd_T26 x.f5 0)) (timesF (buildF n (rd_T26 x.f5 0)) 0 xs)) ∧ Put g v v' w w' := by
  have hu26 := Try.underlying26; have hu38 := Try.underlying38; have HI := Aside0.mk hI; have HB := Aside0.mk hB; have HZ0 := hB.size; have HR1 := Aside0.mk hr1; have HC1 := Aside0.mk hc1; have HR5 := Aside0.mk hr5; have HC5 := Aside0.mk hc5; clear hI hB hr1 hc1 hr5 hc5
  have HRB := Aside0.mk (show ∀ k, v.ownBlock = some k → w0.heap.size ≤ k from fun k hk => Nat.le_trans hw0 (Kd.R_base HI.out.row k hk))
  have HGL := Aside0.mk (show w0.heap.size ≤ g from Nat.le_trans hw0 HI.out.low)
  obtain ⟨ks, hks⟩ := ((size_ev 1 (by omega) (by omega) n (rd_T26 x.f5 0) hs hbd).1).rounds
  have HKS := Aside0.mk hks
  have HS := Aside0.mk hs
  have HBD := Aside0.mk hbd
  have HM := Aside0.mk hm
  have IH := Aside0.mk ih
  clear hs hm ih hbd hks
  obtain ⟨ad, A1_, c1_, A5_, c5_, e_, hX0, hl1_, hi1_, hl5_, hi5_⟩ := at0_T26 HR5.out hl1
  cases e_
  have HX0 := Aside0.mk hX0
  clear hX0
  go_enter Try.func53, Try.ntmps53
  go_wp2_with (first | ((with_reducible refine gate_dst (N := 3) rfl ?_); refine box_event ?hg (N := 3) ?hd (cs := #[.int .i64 x.f0, .slice A1 x.f1.length c1, .int .i64 x.f2, .int .i64 x.f3, .bool x.f4, .slice (some ad) x.f5.length c5]) (t := 26) ?hr ?_; (case hd => rfl); (case hg => rfl); (case hr => first | (go_simp; done) | (go_simp; rfl)); intro gx hgx_ w1 hbox hb; have HG_gx := Aside0.mk hgx_; clear hgx_; have BKX := Aside0.mk hbox; have HBX := Aside0.mk hb; have HIX := Aside0.mk (HI.out.below hb); have HZX := hb.size; have HB0 := Aside0.mk (below_then HB.out HZ0 hb); clear hbox hb; have hx0 : w1.cell? ⟨gx, 0, none⟩ = some (.int .i64 x.f0) := (blk_cell BKX.out 0).trans rfl; have hx2 : w1.cell? ⟨gx, 2, none⟩ = some (.int .i64 x.f2) := (blk_cell BKX.out 2).trans rfl; have hx5 : w1.cell? ⟨gx, 5, none⟩ = some (.slice (some ad) x.f5.length c5) := (blk_cell BKX.out 5).trans rfl; have hq_ := HX0.out.move HB0.out; have hs0_ := hq_.a0; have hs1_ := hq_.a1; have hs2_ := hq_.a2; have hs3_ := hq_.a3; have hs4_ := hq_.a4; have hs5_ := hq_.a5; clear hq_ ) | (go_at_call 28; refine (nfa_size.calls ks (rd_T26 x.f5 0).f0 A1_ c1_ (rd_T26 x.f5 0).f1 (rd_T26 x.f5 0).f2 (rd_T26 x.f5 0).f3 (rd_T26 x.f5 0).f4 A5_ c5_ (rd_T26 x.f5 0).f5 1 (sizeF n (rd_T26 x.f5 0) 1) w1 (Kd.C_below hi1_ HB0.out) hl1_ (Kd.C_below hi5_ HB0.out) hl5_ HKS.out).mono ?_; rintro e w2 ⟨rfl, hb2⟩; have BKX2 := Aside0.mk (blk_below BKX.out hb2); have HI2 := Aside0.mk (HIX.out.below hb2); have HB2 := Aside0.mk (below_then HB0.out HB0.out.size hb2); have HP2 := Aside0.mk (Put.of_below (g := g) (v := v) (HBX.out.trans (hb2.mono HZX))); clear hb2; have hw3 : w2.cell? ⟨gx, 3, none⟩ = some (.int .i64 x.f3) := (blk_cell BKX2.out 3).trans rfl))
  go_loopg [19] 0 (fun kq v19 w' => ∃ (j : Nat) (v1 : Value), v19 = .int .i64 j ∧ Aside0 (j ≤ 0 ∧ kq = 0 - j) ∧ Aside0 (IsB w' base g v1 (timesF (buildF n (rd_T26 x.f5 0)) j xs)) ∧ Aside0 (Put g v v1 w w') ∧ Aside0 (Below w0.heap.size w0 w') ∧ Aside0 (w'.heap[gx]? = some (.cells #[.int .i64 x.f0, .slice A1 x.f1.length c1, .int .i64 x.f2, .int .i64 x.f3, .bool x.f4, .slice (some ad) x.f5.length c5] 26 (0, 0))))
  case atStart => exact ⟨0, v, rfl, ⟨by omega, by omega⟩, HI2, HP2, HB2, BKX2⟩
  case round =>
    clear hx0 hx2 hx5 hw3 BKX BKX2 HIX HI2 HP2 HB2 hs0_ hs1_ hs2_ hs3_ hs4_ hs5_ HBX HB0
    obtain ⟨j, v1, rfl, HJ, HIW, HPW, HBW, BKX⟩ := hrel
    have HTL := Aside0.mk (show (timesF (buildF n (rd_T26 x.f5 0)) 0 xs).length + 2 ≤ 1000000 from Nat.le_trans (starF_le (buildF_le n _) _) HM.out)
    have hx2 : wr.cell? ⟨gx, 2, none⟩ = some (.int .i64 x.f2) := (blk_cell BKX.out 2).trans rfl
    have hx3 : wr.cell? ⟨gx, 3, none⟩ = some (.int .i64 x.f3) := (blk_cell BKX.out 3).trans rfl
    have hx5 : wr.cell? ⟨gx, 5, none⟩ = some (.slice (some ad) x.f5.length c5) := (blk_cell BKX.out 5).trans rfl
    have hq_ := HX0.out.move HBW.out; have hs0_ := hq_.a0; have hs1_ := hq_.a1; have hs2_ := hq_.a2; have hs3_ := hq_.a3; have hs4_ := hq_.a4; have hs5_ := hq_.a5; clear hq_
    by_cases hlt : j < 0
    · first | (exact absurd hlt (Nat.not_lt_zero _)) | (have hlx : (j : Int) < (0 : Int) := (by omega); have HJL := Aside0.mk hlt; have HLE := Aside0.mk (show (buildF n (rd_T26 x.f5 0) (timesF (buildF n (rd_T26 x.f5 0)) j xs)).length ≤ 1000000 from (by rw [← timesF_succ (buildF n (rd_T26 x.f5 0)) j xs]; exact Nat.le_trans (timesF_mono (buildF_le n _) hlt _) (Nat.le_of_succ_le (Nat.le_of_succ_le HTL.out)))); clear hlt; go_wp2_with (go_at_call 26; refine (IH.out (rd_T26 x.f5 0) A1_ c1_ A5_ c5_ w0 base g v1 _ wr hi1_ hl1_ hi5_ hl5_ HBW.out hw0 HIW.out (by have := HIW.out.lt; have := HIW.out.low; omega) HS.out HBD.out HLE.out).mono ?_; rintro e w4 ⟨rfl, v4, hI4, hP4⟩; have HX4 := Aside0.mk (hP4.blk BKX.out (blk_ne BKX.out HIW.out.blk (by decide)) (HIW.out.apart BKX.out (by decide))); have HI4 := Aside0.mk hI4; have HP4 := Aside0.mk (HPW.out.trans hP4); clear hI4 hP4); go_roundg (0 - (j + 1)); (case measure => have h1 := HJ.out; have h2 := HJL.out; omega); (case rel => exact ⟨j + 1, v4, by go_num, ⟨HJL.out, rfl⟩, ⟨by rw [timesF_succ]; exact HI4.out⟩, HP4, ⟨HP4.out.old HB.out HZ0 HGL.out HRB.out⟩, HX4⟩))
    · have hlx : (0 : Int) ≤ (j : Int) := by omega
      have HJE := Aside0.mk (show j = 0 from by have := HJ.out; omega)
      clear hlt
      replace HIW := Aside0.mk (HJE.out ▸ HIW.out)
      obtain ⟨Av, cv, rfl, _⟩ := HIW.out.slice
      have hcg : wr.cell? ⟨g, 0, none⟩ = some (.slice Av (timesF (buildF n (rd_T26 x.f5 0)) 0 xs).length cv) := (blk_cell HIW.out.blk 0).trans rfl
      have HLF := Aside0.mk (show (buildF n (rd_T26 x.f5 0) (forkF (timesF (buildF n (rd_T26 x.f5 0)) 0 xs))).length + 1 ≤ 1000000 from by have h := HM.out; unfold starF at h; rw [setBF_length, setABF_length, forkF_length] at h; exact h)
      have HLT := Aside0.mk (show (timesF (buildF n (rd_T26 x.f5 0)) 0 xs).length + 1 ≤ (buildF n (rd_T26 x.f5 0) (forkF (timesF (buildF n (rd_T26 x.f5 0)) 0 xs))).length from by have h := buildF_le n (rd_T26 x.f5 0) (forkF (timesF (buildF n (rd_T26 x.f5 0)) 0 xs)); rw [forkF_length] at h; exact h)
      go_wp2_with (first | (go_at_call 51; refine (fork_calls base g _ _ wr HIW.out (by have := HIW.out.lt; have := HIW.out.low; omega) (by have := HTL.out; omega)).mono ?_; rintro e w4 ⟨gb4, gn4, v4, rfl, hC4, hI4, hP4⟩; have HC4 := Aside0.mk hC4; have HX4 := Aside0.mk (hP4.blk BKX.out (blk_ne BKX.out HIW.out.blk (by decide)) (HIW.out.apart BKX.out (by decide))); have HI4 := Aside0.mk (show IsB w4 base g v4 (forkF (timesF (buildF n (rd_T26 x.f5 0)) 0 xs)) from hI4); have HP4 := Aside0.mk (HPW.out.trans hP4); have HB4 := Aside0.mk (HP4.out.old HB.out HZ0 HGL.out HRB.out); clear hC4 hI4 hP4; clear hs0_ hs1_ hs2_ hs3_ hs4_ hs5_ hx2 hx3 hx5; have hx5 : w4.cell? ⟨gx, 5, none⟩ = some (.slice (some ad) x.f5.length c5) := (blk_cell HX4.out 5).trans rfl; have hq_ := HX0.out.move HB4.out; have hs0_ := hq_.a0; have hs1_ := hq_.a1; have hs2_ := hq_.a2; have hs3_ := hq_.a3; have hs4_ := hq_.a4; have hs5_ := hq_.a5; clear hq_) | (go_at_call 26; refine (IH.out (rd_T26 x.f5 0) A1_ c1_ A5_ c5_ w0 base g v4 _ w4 hi1_ hl1_ hi5_ hl5_ HB4.out hw0 HI4.out (by have := HI4.out.lt; have := HI4.out.low; omega) HS.out HBD.out (by have := HLF.out; omega)).mono ?_; rintro e w5 ⟨rfl, v5, hI5, hP5⟩; have HC5 := Aside0.mk (HC4.out.put HI4.out hP5); have HI5 := Aside0.mk hI5; have HP5 := Aside0.mk (HP4.out.trans hP5); clear hI5 hP5) | (go_at_call 52; refine (jump_calls base g v5 _ w5 HI5.out (by have := HI5.out.lt; have := HI5.out.low; omega) (by have := HLF.out; omega)).mono ?_; rintro e w6 ⟨gb6, gn6, v6, rfl, hC6, hI6, hP6⟩; have HC6 := Aside0.mk (HC5.out.put HI5.out hP6); have HI6 := Aside0.mk (show IsB w6 base g v6 (forkF (buildF n (rd_T26 x.f5 0) (forkF (timesF (buildF n (rd_T26 x.f5 0)) 0 xs)))) from hI6); have HP6 := Aside0.mk (HP5.out.trans hP6); have HJ6 := Aside0.mk hC6; clear hC6 hI6 hP6) | (go_at_call 71; refine (jump1_calls _ base g gb6 gn6 (buildF n (rd_T26 x.f5 0) (forkF (timesF (buildF n (rd_T26 x.f5 0)) 0 xs))).length ((timesF (buildF n (rd_T26 x.f5 0)) 0 xs).length : Int) v6 _ w6 HI6.out HJ6.out (by rw [forkF_length]; omega) (by rw [forkF_length]; exact HLF.out)).mono ?_; rintro e w7 ⟨rfl, hI7, hP7⟩; have HC7 := Aside0.mk (HC6.out.put HI6.out hP7); have HI7 := Aside0.mk (show IsB w7 base g v6 (setABF (forkF (buildF n (rd_T26 x.f5 0) (forkF (timesF (buildF n (rd_T26 x.f5 0)) 0 xs)))) (buildF n (rd_T26 x.f5 0) (forkF (timesF (buildF n (rd_T26 x.f5 0)) 0 xs))).length (timesF (buildF n (rd_T26 x.f5 0)) 0 xs).length) from hI7); have HP7 := Aside0.mk (HP6.out.trans hP7); clear hI7 hP7) | (go_at_call 70; refine (fork1_calls _ base g gb4 gn4 (timesF (buildF n (rd_T26 x.f5 0)) 0 xs).length v6 _ w7 HI7.out HC7.out (by rw [setABF_length, forkF_length]; have := HLT.out; omega) (by rw [setABF_length, forkF_length]; exact HLF.out)).mono ?_; rintro e w8 ⟨rfl, hI8, hP8⟩; have HI8 := Aside0.mk hI8; have HP8 := Aside0.mk (HP7.out.trans hP8); clear hI8 hP8))
      refine bodyPost_ret (results_none rfl _ _ _) rfl ?_
      exact ⟨rfl, v6, HI8.out, HP8.out⟩
set_option maxHeartbeats 16000000 in
set_option maxRecDepth 100000 in
theorem repeat_star_n (n : Nat) (ih : BuildAt n) (x : S26) (A1 : Option Addr) (c1 : Nat) (A5 : Option Addr) (c5 : Nat) (w0 : World) (base g : Nat) (v : Value) (xs : List S38) (w : World) (hr1 : k54.C w0 A1 x.f1.length x.f1) (hc1 : x.f1.length ≤ c1) (hr5 : k26.C w0 A5 x.f5.length x.f5) (hc5 : x.f5.length ≤ c5)
    (hB : Below w0.heap.size w0 w) (hw0 : w0.heap.size ≤ base) (hI : IsB w base g v xs) (hbase : base ≤ w.heap.size) (hs : rightB n (rd_T26 x.f5 0) = true) (hbd : bnd n (rd_T26 x.f5 0)) (hl1 : 0 < x.f5.length) (h20 : 0 ≤ x.f2) (h21 : x.f2 ≤ 1000) (h3 : x.f3 < 0) (hz : (sizeF n (rd_T26 x.f5 0) 1 == 0) = false) (hm : (starF (buildF n (rd_T26 x.f5 0)) (timesF (buildF n (rd_T26 x.f5 0)) x.f2.toNat xs)).length ≤ 1000000) :
    Calls Try.prog 53 #[.pointer (some ⟨g, 0, none⟩), .agg #[.int .i64 x.f0, .slice A1 x.f1.length c1, .int .i64 x.f2, .int .i64 x.f3, .bool x.f4, .slice A5 x.f5.length c5]] w fun e w' => e = .returned (.tuple #[]) ∧ ∃ v', IsB w' base g v' (starF (buildF n (rd_T26 x.f5 0)) (timesF (buildF n (rd_T26 x.f5 0)) x.f2.toNat xs)) ∧ Put g v v' w w' := by
  have hu26 := Try.underlying26; have hu38 := Try.underlying38; have HI := Aside0.mk hI; have HB := Aside0.mk hB; have HZ0 := hB.size; have HR1 := Aside0.mk hr1; have HC1 := Aside0.mk hc1; have HR5 := Aside0.mk hr5; have HC5 := Aside0.mk hc5; clear hI hB hr1 hc1 hr5 hc5
  have HRB := Aside0.mk (show ∀ k, v.ownBlock = some k → w0.heap.size ≤ k from fun k hk => Nat.le_trans hw0 (Kd.R_base HI.out.row k hk))
  have HGL := Aside0.mk (show w0.heap.size ≤ g from Nat.le_trans hw0 HI.out.low)
  obtain ⟨ks, hks⟩ := ((size_ev 1 (by omega) (by omega) n (rd_T26 x.f5 0) hs hbd).1).rounds
  have HKS := Aside0.mk hks
  have HS := Aside0.mk hs
  have HBD := Aside0.mk hbd
  have HM := Aside0.mk hm
  have IH := Aside0.mk ih
  clear hs hm ih hbd hks
  obtain ⟨ad, A1_, c1_, A5_, c5_, e_, hX0, hl1_, hi1_, hl5_, hi5_⟩ := at0_T26 HR5.out hl1
  cases e_
  have HX0 := Aside0.mk hX0
  clear hX0
  go_enter Try.func53, Try.ntmps53
  go_wp2_with (first | ((with_reducible refine gate_dst (N := 3) rfl ?_); refine box_event ?hg (N := 3) ?hd (cs := #[.int .i64 x.f0, .slice A1 x.f1.length c1, .int .i64 x.f2, .int .i64 x.f3, .bool x.f4, .slice (some ad) x.f5.length c5]) (t := 26) ?hr ?_; (case hd => rfl); (case hg => rfl); (case hr => first | (go_simp; done) | (go_simp; rfl)); intro gx hgx_ w1 hbox hb; have HG_gx := Aside0.mk hgx_; clear hgx_; have BKX := Aside0.mk hbox; have HBX := Aside0.mk hb; have HIX := Aside0.mk (HI.out.below hb); have HZX := hb.size; have HB0 := Aside0.mk (below_then HB.out HZ0 hb); clear hbox hb; have hx0 : w1.cell? ⟨gx, 0, none⟩ = some (.int .i64 x.f0) := (blk_cell BKX.out 0).trans rfl; have hx2 : w1.cell? ⟨gx, 2, none⟩ = some (.int .i64 x.f2) := (blk_cell BKX.out 2).trans rfl; have hx5 : w1.cell? ⟨gx, 5, none⟩ = some (.slice (some ad) x.f5.length c5) := (blk_cell BKX.out 5).trans rfl; have hq_ := HX0.out.move HB0.out; have hs0_ := hq_.a0; have hs1_ := hq_.a1; have hs2_ := hq_.a2; have hs3_ := hq_.a3; have hs4_ := hq_.a4; have hs5_ := hq_.a5; clear hq_ ) | (go_at_call 28; refine (nfa_size.calls ks (rd_T26 x.f5 0).f0 A1_ c1_ (rd_T26 x.f5 0).f1 (rd_T26 x.f5 0).f2 (rd_T26 x.f5 0).f3 (rd_T26 x.f5 0).f4 A5_ c5_ (rd_T26 x.f5 0).f5 1 (sizeF n (rd_T26 x.f5 0) 1) w1 (Kd.C_below hi1_ HB0.out) hl1_ (Kd.C_below hi5_ HB0.out) hl5_ HKS.out).mono ?_; rintro e w2 ⟨rfl, hb2⟩; have BKX2 := Aside0.mk (blk_below BKX.out hb2); have HI2 := Aside0.mk (HIX.out.below hb2); have HB2 := Aside0.mk (below_then HB0.out HB0.out.size hb2); have HP2 := Aside0.mk (Put.of_below (g := g) (v := v) (HBX.out.trans (hb2.mono HZX))); clear hb2; have hw3 : w2.cell? ⟨gx, 3, none⟩ = some (.int .i64 x.f3) := (blk_cell BKX2.out 3).trans rfl))
  go_loopg [19] x.f2.toNat (fun kq v19 w' => ∃ (j : Nat) (v1 : Value), v19 = .int .i64 j ∧ Aside0 (j ≤ x.f2.toNat ∧ kq = x.f2.toNat - j) ∧ Aside0 (IsB w' base g v1 (timesF (buildF n (rd_T26 x.f5 0)) j xs)) ∧ Aside0 (Put g v v1 w w') ∧ Aside0 (Below w0.heap.size w0 w') ∧ Aside0 (w'.heap[gx]? = some (.cells #[.int .i64 x.f0, .slice A1 x.f1.length c1, .int .i64 x.f2, .int .i64 x.f3, .bool x.f4, .slice (some ad) x.f5.length c5] 26 (0, 0))))
  case atStart => exact ⟨0, v, rfl, ⟨by omega, by omega⟩, HI2, HP2, HB2, BKX2⟩
  case round =>
    clear hx0 hx2 hx5 hw3 BKX BKX2 HIX HI2 HP2 HB2 hs0_ hs1_ hs2_ hs3_ hs4_ hs5_ HBX HB0
    obtain ⟨j, v1, rfl, HJ, HIW, HPW, HBW, BKX⟩ := hrel
    have HTL := Aside0.mk (show (timesF (buildF n (rd_T26 x.f5 0)) x.f2.toNat xs).length + 2 ≤ 1000000 from Nat.le_trans (starF_le (buildF_le n _) _) HM.out)
    have hx2 : wr.cell? ⟨gx, 2, none⟩ = some (.int .i64 x.f2) := (blk_cell BKX.out 2).trans rfl
    have hx3 : wr.cell? ⟨gx, 3, none⟩ = some (.int .i64 x.f3) := (blk_cell BKX.out 3).trans rfl
    have hx5 : wr.cell? ⟨gx, 5, none⟩ = some (.slice (some ad) x.f5.length c5) := (blk_cell BKX.out 5).trans rfl
    have hq_ := HX0.out.move HBW.out; have hs0_ := hq_.a0; have hs1_ := hq_.a1; have hs2_ := hq_.a2; have hs3_ := hq_.a3; have hs4_ := hq_.a4; have hs5_ := hq_.a5; clear hq_
    by_cases hlt : j < x.f2.toNat
    · first | (exact absurd hlt (Nat.not_lt_zero _)) | (have hlx : (j : Int) < x.f2 := (by omega); have HJL := Aside0.mk hlt; have HLE := Aside0.mk (show (buildF n (rd_T26 x.f5 0) (timesF (buildF n (rd_T26 x.f5 0)) j xs)).length ≤ 1000000 from (by rw [← timesF_succ (buildF n (rd_T26 x.f5 0)) j xs]; exact Nat.le_trans (timesF_mono (buildF_le n _) hlt _) (Nat.le_of_succ_le (Nat.le_of_succ_le HTL.out)))); clear hlt; go_wp2_with (go_at_call 26; refine (IH.out (rd_T26 x.f5 0) A1_ c1_ A5_ c5_ w0 base g v1 _ wr hi1_ hl1_ hi5_ hl5_ HBW.out hw0 HIW.out (by have := HIW.out.lt; have := HIW.out.low; omega) HS.out HBD.out HLE.out).mono ?_; rintro e w4 ⟨rfl, v4, hI4, hP4⟩; have HX4 := Aside0.mk (hP4.blk BKX.out (blk_ne BKX.out HIW.out.blk (by decide)) (HIW.out.apart BKX.out (by decide))); have HI4 := Aside0.mk hI4; have HP4 := Aside0.mk (HPW.out.trans hP4); clear hI4 hP4); go_roundg (x.f2.toNat - (j + 1)); (case measure => have h1 := HJ.out; have h2 := HJL.out; omega); (case rel => exact ⟨j + 1, v4, by go_num, ⟨HJL.out, rfl⟩, ⟨by rw [timesF_succ]; exact HI4.out⟩, HP4, ⟨HP4.out.old HB.out HZ0 HGL.out HRB.out⟩, HX4⟩))
    · have hlx : x.f2 ≤ (j : Int) := by omega
      have HJE := Aside0.mk (show j = x.f2.toNat from by have := HJ.out; omega)
      clear hlt
      replace HIW := Aside0.mk (HJE.out ▸ HIW.out)
      obtain ⟨Av, cv, rfl, _⟩ := HIW.out.slice
      have hcg : wr.cell? ⟨g, 0, none⟩ = some (.slice Av (timesF (buildF n (rd_T26 x.f5 0)) x.f2.toNat xs).length cv) := (blk_cell HIW.out.blk 0).trans rfl
      have HLF := Aside0.mk (show (buildF n (rd_T26 x.f5 0) (forkF (timesF (buildF n (rd_T26 x.f5 0)) x.f2.toNat xs))).length + 1 ≤ 1000000 from by have h := HM.out; unfold starF at h; rw [setBF_length, setABF_length, forkF_length] at h; exact h)
      have HLT := Aside0.mk (show (timesF (buildF n (rd_T26 x.f5 0)) x.f2.toNat xs).length + 1 ≤ (buildF n (rd_T26 x.f5 0) (forkF (timesF (buildF n (rd_T26 x.f5 0)) x.f2.toNat xs))).length from by have h := buildF_le n (rd_T26 x.f5 0) (forkF (timesF (buildF n (rd_T26 x.f5 0)) x.f2.toNat xs)); rw [forkF_length] at h; exact h)
      go_wp2_with (first | (go_at_call 51; refine (fork_calls base g _ _ wr HIW.out (by have := HIW.out.lt; have := HIW.out.low; omega) (by have := HTL.out; omega)).mono ?_; rintro e w4 ⟨gb4, gn4, v4, rfl, hC4, hI4, hP4⟩; have HC4 := Aside0.mk hC4; have HX4 := Aside0.mk (hP4.blk BKX.out (blk_ne BKX.out HIW.out.blk (by decide)) (HIW.out.apart BKX.out (by decide))); have HI4 := Aside0.mk (show IsB w4 base g v4 (forkF (timesF (buildF n (rd_T26 x.f5 0)) x.f2.toNat xs)) from hI4); have HP4 := Aside0.mk (HPW.out.trans hP4); have HB4 := Aside0.mk (HP4.out.old HB.out HZ0 HGL.out HRB.out); clear hC4 hI4 hP4; clear hs0_ hs1_ hs2_ hs3_ hs4_ hs5_ hx2 hx3 hx5; have hx5 : w4.cell? ⟨gx, 5, none⟩ = some (.slice (some ad) x.f5.length c5) := (blk_cell HX4.out 5).trans rfl; have hq_ := HX0.out.move HB4.out; have hs0_ := hq_.a0; have hs1_ := hq_.a1; have hs2_ := hq_.a2; have hs3_ := hq_.a3; have hs4_ := hq_.a4; have hs5_ := hq_.a5; clear hq_) | (go_at_call 26; refine (IH.out (rd_T26 x.f5 0) A1_ c1_ A5_ c5_ w0 base g v4 _ w4 hi1_ hl1_ hi5_ hl5_ HB4.out hw0 HI4.out (by have := HI4.out.lt; have := HI4.out.low; omega) HS.out HBD.out (by have := HLF.out; omega)).mono ?_; rintro e w5 ⟨rfl, v5, hI5, hP5⟩; have HC5 := Aside0.mk (HC4.out.put HI4.out hP5); have HI5 := Aside0.mk hI5; have HP5 := Aside0.mk (HP4.out.trans hP5); clear hI5 hP5) | (go_at_call 52; refine (jump_calls base g v5 _ w5 HI5.out (by have := HI5.out.lt; have := HI5.out.low; omega) (by have := HLF.out; omega)).mono ?_; rintro e w6 ⟨gb6, gn6, v6, rfl, hC6, hI6, hP6⟩; have HC6 := Aside0.mk (HC5.out.put HI5.out hP6); have HI6 := Aside0.mk (show IsB w6 base g v6 (forkF (buildF n (rd_T26 x.f5 0) (forkF (timesF (buildF n (rd_T26 x.f5 0)) x.f2.toNat xs)))) from hI6); have HP6 := Aside0.mk (HP5.out.trans hP6); have HJ6 := Aside0.mk hC6; clear hC6 hI6 hP6) | (go_at_call 71; refine (jump1_calls _ base g gb6 gn6 (buildF n (rd_T26 x.f5 0) (forkF (timesF (buildF n (rd_T26 x.f5 0)) x.f2.toNat xs))).length ((timesF (buildF n (rd_T26 x.f5 0)) x.f2.toNat xs).length : Int) v6 _ w6 HI6.out HJ6.out (by rw [forkF_length]; omega) (by rw [forkF_length]; exact HLF.out)).mono ?_; rintro e w7 ⟨rfl, hI7, hP7⟩; have HC7 := Aside0.mk (HC6.out.put HI6.out hP7); have HI7 := Aside0.mk (show IsB w7 base g v6 (setABF (forkF (buildF n (rd_T26 x.f5 0) (forkF (timesF (buildF n (rd_T26 x.f5 0)) x.f2.toNat xs)))) (buildF n (rd_T26 x.f5 0) (forkF (timesF (buildF n (rd_T26 x.f5 0)) x.f2.toNat xs))).length (timesF (buildF n (rd_T26 x.f5 0)) x.f2.toNat xs).length) from hI7); have HP7 := Aside0.mk (HP6.out.trans hP7); clear hI7 hP7) | (go_at_call 70; refine (fork1_calls _ base g gb4 gn4 (timesF (buildF n (rd_T26 x.f5 0)) x.f2.toNat xs).length v6 _ w7 HI7.out HC7.out (by rw [setABF_length, forkF_length]; have := HLT.out; omega) (by rw [setABF_length, forkF_length]; exact HLF.out)).mono ?_; rintro e w8 ⟨rfl, hI8, hP8⟩; have HI8 := Aside0.mk hI8; have HP8 := Aside0.mk (HP7.out.trans hP8); clear hI8 hP8))
      refine bodyPost_ret (results_none rfl _ _ _) rfl ?_
      exact ⟨rfl, v6, HI8.out, HP8.out⟩
end Go.Proofs.Ytbgfobdlnlkfiaa.A
/- The builder's repeat, up to a number of times. -/
namespace Go.Proofs.Ytbgfobdlnlkfiaa.A
open Go.RowKit Go.Proofs.YtbgfobdlnlkfiaaW.PrintWords Go.Proofs.YtbgfobdlnlkfiaaW.PrintLast Go.Proofs.YtbgfobdlnlkfiaaW.PrintMore
attribute [local go_sem] max2_int min2_int max_two min_two max_three min_three max_four min_four
set_option linter.unusedVariables false
set_option linter.unusedSimpArgs false


theorem backsF_step {l : List S38} {o : List Nat} {m : Nat} (h : m < o.length) : backsF l (o.take (m + 1)) = setBF (backsF l (o.take m)) (o.getD m 0) := by
  unfold backsF
  rw [List.take_succ_eq_append_getElem h, List.foldl_append]
  simp [h]
set_option maxHeartbeats 16000000 in
set_option maxRecDepth 100000 in
theorem repeat_opt_z (n : Nat) (ih : BuildAt n) (x : S26) (A1 : Option Addr) (c1 : Nat) (A5 : Option Addr) (c5 : Nat) (w0 : World) (base g : Nat) (v : Value) (xs : List S38) (w : World) (hr1 : k54.C w0 A1 x.f1.length x.f1) (hc1 : x.f1.length ≤ c1) (hr5 : k26.C w0 A5 x.f5.length x.f5) (hc5 : x.f5.length ≤ c5)
    (hB : Below w0.heap.size w0 w) (hw0 : w0.heap.size ≤ base) (hI : IsB w base g v xs) (hbase : base ≤ w.heap.size) (hs : rightB n (rd_T26 x.f5 0) = true) (hbd : bnd n (rd_T26 x.f5 0)) (hl1 : 0 < x.f5.length) (h20 : 0 ≤ x.f2) (h21 : x.f2 ≤ 1000) (h3 : 0 ≤ x.f3) (h31 : x.f2 ≤ x.f3) (h32 : x.f3 ≤ 1000) (hz : (sizeF n (rd_T26 x.f5 0) 1 == 0) = true) (hm : (optF (buildF n (rd_T26 x.f5 0)) (x.f3 - x.f2).toNat (timesF (buildF n (rd_T26 x.f5 0)) 0 xs)).length ≤ 1000000) :
    Calls Try.prog 53 #[.pointer (some ⟨g, 0, none⟩), .agg #[.int .i64 x.f0, .slice A1 x.f1.length c1, .int .i64 x.f2, .int .i64 x.f3, .bool x.f4, .slice A5 x.f5.length c5]] w fun e w' => e = .returned (.tuple #[]) ∧ ∃ v', IsB w' base g v' (optF (buildF n (rd_T26 x.f5 0)) (x.f3 - x.f2).toNat (timesF (buildF n (rd_T26 x.f5 0)) 0 xs)) ∧ Put g v v' w w' := by
  have hu26 := Try.underlying26; have hu38 := Try.underlying38; have HI := Aside0.mk hI; have HB := Aside0.mk hB; have HZ0 := hB.size; have HR1 := Aside0.mk hr1; have HC1 := Aside0.mk hc1; have HR5 := Aside0.mk hr5; have HC5 := Aside0.mk hc5; clear hI hB hr1 hc1 hr5 hc5
  have HRB := Aside0.mk (show ∀ k, v.ownBlock = some k → w0.heap.size ≤ k from fun k hk => Nat.le_trans hw0 (Kd.R_base HI.out.row k hk))
  have HGL := Aside0.mk (show w0.heap.size ≤ g from Nat.le_trans hw0 HI.out.low)
  obtain ⟨ks, hks⟩ := ((size_ev 1 (by omega) (by omega) n (rd_T26 x.f5 0) hs hbd).1).rounds
  have HKS := Aside0.mk hks
  have HS := Aside0.mk hs
  have HBD := Aside0.mk hbd
  have HM := Aside0.mk hm
  have IH := Aside0.mk ih
  clear hs hm ih hbd hks
  obtain ⟨ad, A1_, c1_, A5_, c5_, e_, hX0, hl1_, hi1_, hl5_, hi5_⟩ := at0_T26 HR5.out hl1
  cases e_
  have HX0 := Aside0.mk hX0
  clear hX0
  go_enter Try.func53, Try.ntmps53
  go_wp2_with (first | ((with_reducible refine gate_dst (N := 3) rfl ?_); refine box_event ?hg (N := 3) ?hd (cs := #[.int .i64 x.f0, .slice A1 x.f1.length c1, .int .i64 x.f2, .int .i64 x.f3, .bool x.f4, .slice (some ad) x.f5.length c5]) (t := 26) ?hr ?_; (case hd => rfl); (case hg => rfl); (case hr => first | (go_simp; done) | (go_simp; rfl)); intro gx hgx_ w1 hbox hb; have HG_gx := Aside0.mk hgx_; clear hgx_; have BKX := Aside0.mk hbox; have HBX := Aside0.mk hb; have HIX := Aside0.mk (HI.out.below hb); have HZX := hb.size; have HB0 := Aside0.mk (below_then HB.out HZ0 hb); clear hbox hb; have hx0 : w1.cell? ⟨gx, 0, none⟩ = some (.int .i64 x.f0) := (blk_cell BKX.out 0).trans rfl; have hx2 : w1.cell? ⟨gx, 2, none⟩ = some (.int .i64 x.f2) := (blk_cell BKX.out 2).trans rfl; have hx5 : w1.cell? ⟨gx, 5, none⟩ = some (.slice (some ad) x.f5.length c5) := (blk_cell BKX.out 5).trans rfl; have hq_ := HX0.out.move HB0.out; have hs0_ := hq_.a0; have hs1_ := hq_.a1; have hs2_ := hq_.a2; have hs3_ := hq_.a3; have hs4_ := hq_.a4; have hs5_ := hq_.a5; clear hq_ ) | (go_at_call 28; refine (nfa_size.calls ks (rd_T26 x.f5 0).f0 A1_ c1_ (rd_T26 x.f5 0).f1 (rd_T26 x.f5 0).f2 (rd_T26 x.f5 0).f3 (rd_T26 x.f5 0).f4 A5_ c5_ (rd_T26 x.f5 0).f5 1 (sizeF n (rd_T26 x.f5 0) 1) w1 (Kd.C_below hi1_ HB0.out) hl1_ (Kd.C_below hi5_ HB0.out) hl5_ HKS.out).mono ?_; rintro e w2 ⟨rfl, hb2⟩; have BKX2 := Aside0.mk (blk_below BKX.out hb2); have HI2 := Aside0.mk (HIX.out.below hb2); have HB2 := Aside0.mk (below_then HB0.out HB0.out.size hb2); have HP2 := Aside0.mk (Put.of_below (g := g) (v := v) (HBX.out.trans (hb2.mono HZX))); clear hb2; have hw3 : w2.cell? ⟨gx, 3, none⟩ = some (.int .i64 x.f3) := (blk_cell BKX2.out 3).trans rfl))
  go_loopg [19] 0 (fun kq v19 w' => ∃ (j : Nat) (v1 : Value), v19 = .int .i64 j ∧ Aside0 (j ≤ 0 ∧ kq = 0 - j) ∧ Aside0 (IsB w' base g v1 (timesF (buildF n (rd_T26 x.f5 0)) j xs)) ∧ Aside0 (Put g v v1 w w') ∧ Aside0 (Below w0.heap.size w0 w') ∧ Aside0 (w'.heap[gx]? = some (.cells #[.int .i64 x.f0, .slice A1 x.f1.length c1, .int .i64 x.f2, .int .i64 x.f3, .bool x.f4, .slice (some ad) x.f5.length c5] 26 (0, 0))))
  case atStart => exact ⟨0, v, rfl, ⟨by omega, by omega⟩, HI2, HP2, HB2, BKX2⟩
  case round =>
    clear hx0 hx2 hx5 hw3 BKX BKX2 HIX HI2 HP2 HB2 hs0_ hs1_ hs2_ hs3_ hs4_ hs5_ HBX HB0
    obtain ⟨j, v1, rfl, HJ, HIW, HPW, HBW, BKX⟩ := hrel
    have HTL := Aside0.mk (show (timesF (buildF n (rd_T26 x.f5 0)) 0 xs).length ≤ 1000000 from by have h := HM.out; unfold optF at h; rw [backsF_length] at h; exact Nat.le_trans (optGo_le (buildF_le n _) _ _ _) h)
    have hx2 : wr.cell? ⟨gx, 2, none⟩ = some (.int .i64 x.f2) := (blk_cell BKX.out 2).trans rfl
    have hx3 : wr.cell? ⟨gx, 3, none⟩ = some (.int .i64 x.f3) := (blk_cell BKX.out 3).trans rfl
    have hx5 : wr.cell? ⟨gx, 5, none⟩ = some (.slice (some ad) x.f5.length c5) := (blk_cell BKX.out 5).trans rfl
    have hq_ := HX0.out.move HBW.out; have hs0_ := hq_.a0; have hs1_ := hq_.a1; have hs2_ := hq_.a2; have hs3_ := hq_.a3; have hs4_ := hq_.a4; have hs5_ := hq_.a5; clear hq_
    by_cases hlt : j < 0
    · first | (exact absurd hlt (Nat.not_lt_zero _)) | (have hlx : (j : Int) < (0 : Int) := (by omega); have HJL := Aside0.mk hlt; have HLE := Aside0.mk (show (buildF n (rd_T26 x.f5 0) (timesF (buildF n (rd_T26 x.f5 0)) j xs)).length ≤ 1000000 from (by rw [← timesF_succ (buildF n (rd_T26 x.f5 0)) j xs]; exact Nat.le_trans (timesF_mono (buildF_le n _) hlt _) HTL.out)); clear hlt; go_wp2_with (go_at_call 26; refine (IH.out (rd_T26 x.f5 0) A1_ c1_ A5_ c5_ w0 base g v1 _ wr hi1_ hl1_ hi5_ hl5_ HBW.out hw0 HIW.out (by have := HIW.out.lt; have := HIW.out.low; omega) HS.out HBD.out HLE.out).mono ?_; rintro e w4 ⟨rfl, v4, hI4, hP4⟩; have HX4 := Aside0.mk (hP4.blk BKX.out (blk_ne BKX.out HIW.out.blk (by decide)) (HIW.out.apart BKX.out (by decide))); have HI4 := Aside0.mk hI4; have HP4 := Aside0.mk (HPW.out.trans hP4); clear hI4 hP4); go_roundg (0 - (j + 1)); (case measure => have h1 := HJ.out; have h2 := HJL.out; omega); (case rel => exact ⟨j + 1, v4, by go_num, ⟨HJL.out, rfl⟩, ⟨by rw [timesF_succ]; exact HI4.out⟩, HP4, ⟨HP4.out.old HB.out HZ0 HGL.out HRB.out⟩, HX4⟩))
    · have hlx : (0 : Int) ≤ (j : Int) := by omega
      have HJE := Aside0.mk (show j = 0 from by have := HJ.out; omega)
      clear hlt
      replace HIW := Aside0.mk (HJE.out ▸ HIW.out)
      go_wp2
      clear hs0_ hs1_ hs2_ hs3_ hs4_ hs5_ hx2 hx3 hx5 hlx
      go_loopg [7, 55] (x.f3 - x.f2).toNat (fun kq v7 v55 w' => ∃ (m : Nat) (l : List S38) (o : List Nat) (ps : List (Nat × Nat)) (v1 : Value), v55 = .int .i64 m ∧ Aside0 (m ≤ (x.f3 - x.f2).toNat ∧ kq = (x.f3 - x.f2).toNat - m) ∧ Aside0 (optGo (buildF n (rd_T26 x.f5 0)) ((x.f3 - x.f2).toNat - m) l o = optGo (buildF n (rd_T26 x.f5 0)) (x.f3 - x.f2).toNat (timesF (buildF n (rd_T26 x.f5 0)) 0 xs) []) ∧ Aside0 (Outs 70 1 w' w.heap.size w.heap.size g v7 ps o) ∧ Aside0 (o.length ≤ l.length ∧ ∀ j, j < o.length → o.getD j 0 < l.length) ∧ Aside0 (IsB w' base g v1 l) ∧ Aside0 (Put g v v1 w w') ∧ Aside0 (Below w0.heap.size w0 w') ∧ Aside0 (w'.heap[gx]? = some (.cells #[.int .i64 x.f0, .slice A1 x.f1.length c1, .int .i64 x.f2, .int .i64 x.f3, .bool x.f4, .slice (some ad) x.f5.length c5] 26 (0, 0))))
      case atStart => exact ⟨0, _, [], [], v1, rfl, ⟨by omega, by omega⟩, ⟨rfl⟩, ⟨Outs.start _ _ _ _ _ _⟩, ⟨by simp⟩, HIW, HPW, HBW, BKX⟩
      case round =>
        clear HIW HPW HBW BKX HJ HJE
        obtain ⟨m, l, o, ps, v2, rfl, HMM, HOG, HO, HOL, HIW, HPW, HBW, BKX⟩ := hrel
        obtain ⟨A7, c7, rfl⟩ := Kd.R_slice HO.out.row
        obtain ⟨wo, hwo⟩ : ∃ wo : World, wo = wr := ⟨_, rfl⟩
        subst hwo
        have HFIN := Aside0.mk (show (optGo (buildF n (rd_T26 x.f5 0)) ((x.f3 - x.f2).toNat - m) l o).1.length ≤ 1000000 from by have h := HM.out; unfold optF at h; rw [backsF_length, ← HOG.out] at h; exact h)
        by_cases hlt : m < (x.f3 - x.f2).toNat
        · have hlx : (m : Int) < x.f3 - x.f2 := by omega
          have HML := Aside0.mk hlt
          have HST := Aside0.mk (show optGo (buildF n (rd_T26 x.f5 0)) ((x.f3 - x.f2).toNat - m) l o = optGo (buildF n (rd_T26 x.f5 0)) ((x.f3 - x.f2).toNat - (m + 1)) (buildF n (rd_T26 x.f5 0) (forkF l)) (o ++ [l.length]) from by rw [show (x.f3 - x.f2).toNat - m = ((x.f3 - x.f2).toNat - (m + 1)) + 1 from (by omega)]; rfl)
          have HLE := Aside0.mk (show (buildF n (rd_T26 x.f5 0) (forkF l)).length ≤ 1000000 from by have h := HFIN.out; rw [HST.out] at h; exact Nat.le_trans (optGo_le (buildF_le n _) _ _ _) h)
          have HL1 := Aside0.mk (show l.length + 1 ≤ (buildF n (rd_T26 x.f5 0) (forkF l)).length from by have h := buildF_le n (rd_T26 x.f5 0) (forkF l); rw [forkF_length] at h; exact h)
          clear hlt
          go_wp2_with (first | (go_at_call 51; refine (fork_calls base g _ _ wo HIW.out (by have := HIW.out.lt; have := HIW.out.low; omega) (by have := HLE.out; have := HL1.out; omega)).mono ?_; rintro e w4 ⟨gb4, gn4, v4, rfl, hC4, hI4, hP4⟩; have HC4 := Aside0.mk (hC4.lower (lo' := w.heap.size) HPW.out.size); have HO4 := Aside0.mk (HO.out.put (by decide) (by decide) HIW.out hP4); have HX4 := Aside0.mk (hP4.blk BKX.out (blk_ne BKX.out HIW.out.blk (by decide)) (HIW.out.apart BKX.out (by decide))); have HI4 := Aside0.mk (show IsB w4 base g v4 (forkF l) from hI4); have HP4 := Aside0.mk (HPW.out.trans hP4); clear hC4 hI4 hP4) | ((with_reducible refine gate_dst (N := 61) rfl ?_); refine Kd.R_append (kF 70) (w0 := w4) w.heap.size (by rfl) _ _ 113 1 _ 8 (by rfl) Try.underlying113 info1 rfl (by decide) (by decide) (.slice A7 ps.length c7) ps (gb4, gn4) [encF 70 (gb4, gn4)] (fun _ => True) (fun _ => False) (by rfl) (by rfl) (by rfl) (fun _ h => h.elim) (fun _ _ => trivial) HO4.out.row (Below.refl _ _) HP4.out.size (by have h1 := HO4.out.len; have h2 := HOL.out.1; have h3 := HL1.out; have h4 := HLE.out; omega) ?_; intro u7 w7 hR7 hB7 hG7 hat7; have HO7 := Aside0.mk (HO4.out.snoc (by decide) (by decide) HC4.out hG7 hR7); have HI7 := Aside0.mk (HI4.out.grownOther HO4.out.row hG7 (by decide) (by decide)); have HX7 := Aside0.mk (blk_grown HX4.out hG7 (HO4.out.ne HX4.out (by decide))); have HP7 := Aside0.mk (HP4.out.grownNew hG7 (Kd.R_base HO4.out.row)); have HB7 := Aside0.mk (HP7.out.old HB.out HZ0 HGL.out HRB.out); clear hR7 hB7 hG7 hat7; have hx5 : w7.cell? ⟨gx, 5, none⟩ = some (.slice (some ad) x.f5.length c5) := (blk_cell HX7.out 5).trans rfl; have hq_ := HX0.out.move HB7.out; have hs0_ := hq_.a0; have hs1_ := hq_.a1; have hs2_ := hq_.a2; have hs3_ := hq_.a3; have hs4_ := hq_.a4; have hs5_ := hq_.a5; clear hq_) | (go_at_call 26; refine (IH.out (rd_T26 x.f5 0) A1_ c1_ A5_ c5_ w0 base g v4 _ w7 hi1_ hl1_ hi5_ hl5_ HB7.out hw0 HI7.out (by have := HI7.out.lt; have := HI7.out.low; omega) HS.out HBD.out HLE.out).mono ?_; rintro e w8 ⟨rfl, v8, hI8, hP8⟩; have HO8 := Aside0.mk (HO7.out.put (by decide) (by decide) HI7.out hP8); have HX8 := Aside0.mk (hP8.blk HX7.out (blk_ne HX7.out HI7.out.blk (by decide)) (HI7.out.apart HX7.out (by decide))); have HI8 := Aside0.mk hI8; have HP8 := Aside0.mk (HP7.out.trans hP8); clear hI8 hP8))
          have HOB := Aside0.mk (show (o ++ [l.length]).length ≤ (buildF n (rd_T26 x.f5 0) (forkF l)).length ∧ ∀ j, j < (o ++ [l.length]).length → (o ++ [l.length]).getD j 0 < (buildF n (rd_T26 x.f5 0) (forkF l)).length from by have h1 := HOL.out; have h2 := HL1.out; refine ⟨by simp; omega, fun j hj => ?_⟩; rcases Nat.lt_or_ge j o.length with hjl | hjl; (have h3 := h1.2 j hjl; simp only [List.getD_eq_getElem?_getD, List.getElem?_append_left hjl] at h3 ⊢; omega); (simp at hj; obtain rfl : j = o.length := (by omega); simp; omega))
          have hm1000 : (m : Int) ≤ 1000 := by have := HML.out; omega
          go_roundg ((x.f3 - x.f2).toNat - (m + 1))
          case measure => have := HMM.out; have := HML.out; omega
          case rel => exact ⟨m + 1, _, _, _, v8, by go_num, ⟨HML.out, rfl⟩, ⟨HST.out.symm.trans HOG.out⟩, HO8, HOB, HI8, HP8, ⟨HP8.out.old HB.out HZ0 HGL.out HRB.out⟩, HX8⟩
        · have hlx : x.f3 - x.f2 ≤ (m : Int) := by omega
          have HME := Aside0.mk (show m = (x.f3 - x.f2).toNat from by have := HMM.out; omega)
          have HTOT := Aside0.mk (show (l, o) = optGo (buildF n (rd_T26 x.f5 0)) (x.f3 - x.f2).toNat (timesF (buildF n (rd_T26 x.f5 0)) 0 xs) [] from by rw [← HOG.out, HME.out, Nat.sub_self]; rfl)
          have HLL := Aside0.mk (show l.length ≤ 1000000 from by have h := HFIN.out; rw [HME.out, Nat.sub_self] at h; exact h)
          clear hlt
          go_wp2
          go_loopg [71] o.length (fun kq2 v71 w5 => ∃ (j : Nat), v71 = .int .i64 j ∧ Aside0 (j ≤ o.length ∧ kq2 = o.length - j) ∧ Aside0 (IsB w5 base g v2 (backsF l (o.take j))) ∧ Aside0 (Put g v v2 w w5) ∧ Aside0 (Outs 70 1 w5 w.heap.size w.heap.size g (.slice A7 ps.length c7) ps o))
          case atStart => exact ⟨0, rfl, ⟨by omega, by omega⟩, HIW, HPW, HO⟩
          case round =>
            clear HIW HPW HO
            obtain ⟨j, rfl, HJ5, HI5, HP5, HO5⟩ := hrel
            have hml : (backsF l (o.take j)).length = l.length := backsF_length _ _
            have hpl := HO5.out.len
            by_cases hlj : j < o.length
            · have hj0 : 0 ≤ (j : Int) := by omega
              have hj1 : (j : Int) < (ps.length : Int) := by omega
              have hjb : (j : Int) ≤ 1000000 := by have h1 := HOL.out.1; have h3 := HLL.out; omega
              obtain ⟨ad6, gb6, gn6, e6, hco, hcp⟩ := HO5.out.at_ hlj
              cases e6
              have hoj : o.getD j 0 < (backsF l (o.take j)).length := by have h1 := HOL.out.2 j hlj; omega
              have HSB := Aside0.mk (backsF_step (l := l) hlj)
              have HMB := Aside0.mk hml
              have HLJ := Aside0.mk hlj
              have HCP := Aside0.mk hcp
              clear hml hpl hcp
              obtain ⟨nj, hnj⟩ : ∃ nj, nj = o.getD j 0 := ⟨_, rfl⟩
              rw [← hnj] at hoj
              have HNJ := Aside0.mk hnj
              clear hnj
              replace HCP := HNJ.out ▸ HCP.out
              have HCQ := Aside0.mk HCP
              clear HCP
              go_wp2_with (first | (go_at_call 70; refine (fork1_calls w.heap.size base g gb6 gn6 nj _ _ wr HI5.out HCQ.out hoj (by have := HMB.out; have := HLL.out; omega)).mono ?_; rintro e w6 ⟨rfl, hI6, hP6⟩; have HO6 := Aside0.mk (HO5.out.put (by decide) (by decide) HI5.out hP6); have HI6 := Aside0.mk hI6; have HP6 := Aside0.mk (HP5.out.trans hP6); clear hI6 hP6))
              go_roundg (o.length - (j + 1))
              case measure => have := HJ5.out; have := HLJ.out; omega
              case rel => exact ⟨j + 1, by go_num, ⟨HLJ.out, rfl⟩, ⟨by rw [HSB.out, ← HNJ.out]; exact HI6.out⟩, HP6, HO6⟩
            · have hnot : ps.length ≤ j := by omega
              have HEND := Aside0.mk (show backsF l (o.take j) = optF (buildF n (rd_T26 x.f5 0)) (x.f3 - x.f2).toNat (timesF (buildF n (rd_T26 x.f5 0)) 0 xs) from by have h1 := HJ5.out; have h2 : j = o.length := (by omega); unfold optF; rw [← HTOT.out, h2, List.take_length])
              clear hml hpl
              go_wp2
              go_end0
              exact ⟨rfl, v2, by rw [← HEND.out]; exact HI5.out, HP5.out⟩
set_option maxHeartbeats 16000000 in
set_option maxRecDepth 100000 in
theorem repeat_opt_n (n : Nat) (ih : BuildAt n) (x : S26) (A1 : Option Addr) (c1 : Nat) (A5 : Option Addr) (c5 : Nat) (w0 : World) (base g : Nat) (v : Value) (xs : List S38) (w : World) (hr1 : k54.C w0 A1 x.f1.length x.f1) (hc1 : x.f1.length ≤ c1) (hr5 : k26.C w0 A5 x.f5.length x.f5) (hc5 : x.f5.length ≤ c5)
    (hB : Below w0.heap.size w0 w) (hw0 : w0.heap.size ≤ base) (hI : IsB w base g v xs) (hbase : base ≤ w.heap.size) (hs : rightB n (rd_T26 x.f5 0) = true) (hbd : bnd n (rd_T26 x.f5 0)) (hl1 : 0 < x.f5.length) (h20 : 0 ≤ x.f2) (h21 : x.f2 ≤ 1000) (h3 : 0 ≤ x.f3) (h31 : x.f2 ≤ x.f3) (h32 : x.f3 ≤ 1000) (hz : (sizeF n (rd_T26 x.f5 0) 1 == 0) = false) (hm : (optF (buildF n (rd_T26 x.f5 0)) (x.f3 - x.f2).toNat (timesF (buildF n (rd_T26 x.f5 0)) x.f2.toNat xs)).length ≤ 1000000) :
    Calls Try.prog 53 #[.pointer (some ⟨g, 0, none⟩), .agg #[.int .i64 x.f0, .slice A1 x.f1.length c1, .int .i64 x.f2, .int .i64 x.f3, .bool x.f4, .slice A5 x.f5.length c5]] w fun e w' => e = .returned (.tuple #[]) ∧ ∃ v', IsB w' base g v' (optF (buildF n (rd_T26 x.f5 0)) (x.f3 - x.f2).toNat (timesF (buildF n (rd_T26 x.f5 0)) x.f2.toNat xs)) ∧ Put g v v' w w' := by
  have hu26 := Try.underlying26; have hu38 := Try.underlying38; have HI := Aside0.mk hI; have HB := Aside0.mk hB; have HZ0 := hB.size; have HR1 := Aside0.mk hr1; have HC1 := Aside0.mk hc1; have HR5 := Aside0.mk hr5; have HC5 := Aside0.mk hc5; clear hI hB hr1 hc1 hr5 hc5
  have HRB := Aside0.mk (show ∀ k, v.ownBlock = some k → w0.heap.size ≤ k from fun k hk => Nat.le_trans hw0 (Kd.R_base HI.out.row k hk))
  have HGL := Aside0.mk (show w0.heap.size ≤ g from Nat.le_trans hw0 HI.out.low)
  obtain ⟨ks, hks⟩ := ((size_ev 1 (by omega) (by omega) n (rd_T26 x.f5 0) hs hbd).1).rounds
  have HKS := Aside0.mk hks
  have HS := Aside0.mk hs
  have HBD := Aside0.mk hbd
  have HM := Aside0.mk hm
  have IH := Aside0.mk ih
  clear hs hm ih hbd hks
  obtain ⟨ad, A1_, c1_, A5_, c5_, e_, hX0, hl1_, hi1_, hl5_, hi5_⟩ := at0_T26 HR5.out hl1
  cases e_
  have HX0 := Aside0.mk hX0
  clear hX0
  go_enter Try.func53, Try.ntmps53
  go_wp2_with (first | ((with_reducible refine gate_dst (N := 3) rfl ?_); refine box_event ?hg (N := 3) ?hd (cs := #[.int .i64 x.f0, .slice A1 x.f1.length c1, .int .i64 x.f2, .int .i64 x.f3, .bool x.f4, .slice (some ad) x.f5.length c5]) (t := 26) ?hr ?_; (case hd => rfl); (case hg => rfl); (case hr => first | (go_simp; done) | (go_simp; rfl)); intro gx hgx_ w1 hbox hb; have HG_gx := Aside0.mk hgx_; clear hgx_; have BKX := Aside0.mk hbox; have HBX := Aside0.mk hb; have HIX := Aside0.mk (HI.out.below hb); have HZX := hb.size; have HB0 := Aside0.mk (below_then HB.out HZ0 hb); clear hbox hb; have hx0 : w1.cell? ⟨gx, 0, none⟩ = some (.int .i64 x.f0) := (blk_cell BKX.out 0).trans rfl; have hx2 : w1.cell? ⟨gx, 2, none⟩ = some (.int .i64 x.f2) := (blk_cell BKX.out 2).trans rfl; have hx5 : w1.cell? ⟨gx, 5, none⟩ = some (.slice (some ad) x.f5.length c5) := (blk_cell BKX.out 5).trans rfl; have hq_ := HX0.out.move HB0.out; have hs0_ := hq_.a0; have hs1_ := hq_.a1; have hs2_ := hq_.a2; have hs3_ := hq_.a3; have hs4_ := hq_.a4; have hs5_ := hq_.a5; clear hq_ ) | (go_at_call 28; refine (nfa_size.calls ks (rd_T26 x.f5 0).f0 A1_ c1_ (rd_T26 x.f5 0).f1 (rd_T26 x.f5 0).f2 (rd_T26 x.f5 0).f3 (rd_T26 x.f5 0).f4 A5_ c5_ (rd_T26 x.f5 0).f5 1 (sizeF n (rd_T26 x.f5 0) 1) w1 (Kd.C_below hi1_ HB0.out) hl1_ (Kd.C_below hi5_ HB0.out) hl5_ HKS.out).mono ?_; rintro e w2 ⟨rfl, hb2⟩; have BKX2 := Aside0.mk (blk_below BKX.out hb2); have HI2 := Aside0.mk (HIX.out.below hb2); have HB2 := Aside0.mk (below_then HB0.out HB0.out.size hb2); have HP2 := Aside0.mk (Put.of_below (g := g) (v := v) (HBX.out.trans (hb2.mono HZX))); clear hb2; have hw3 : w2.cell? ⟨gx, 3, none⟩ = some (.int .i64 x.f3) := (blk_cell BKX2.out 3).trans rfl))
  go_loopg [19] x.f2.toNat (fun kq v19 w' => ∃ (j : Nat) (v1 : Value), v19 = .int .i64 j ∧ Aside0 (j ≤ x.f2.toNat ∧ kq = x.f2.toNat - j) ∧ Aside0 (IsB w' base g v1 (timesF (buildF n (rd_T26 x.f5 0)) j xs)) ∧ Aside0 (Put g v v1 w w') ∧ Aside0 (Below w0.heap.size w0 w') ∧ Aside0 (w'.heap[gx]? = some (.cells #[.int .i64 x.f0, .slice A1 x.f1.length c1, .int .i64 x.f2, .int .i64 x.f3, .bool x.f4, .slice (some ad) x.f5.length c5] 26 (0, 0))))
  case atStart => exact ⟨0, v, rfl, ⟨by omega, by omega⟩, HI2, HP2, HB2, BKX2⟩
  case round =>
    clear hx0 hx2 hx5 hw3 BKX BKX2 HIX HI2 HP2 HB2 hs0_ hs1_ hs2_ hs3_ hs4_ hs5_ HBX HB0
    obtain ⟨j, v1, rfl, HJ, HIW, HPW, HBW, BKX⟩ := hrel
    have HTL := Aside0.mk (show (timesF (buildF n (rd_T26 x.f5 0)) x.f2.toNat xs).length ≤ 1000000 from by have h := HM.out; unfold optF at h; rw [backsF_length] at h; exact Nat.le_trans (optGo_le (buildF_le n _) _ _ _) h)
    have hx2 : wr.cell? ⟨gx, 2, none⟩ = some (.int .i64 x.f2) := (blk_cell BKX.out 2).trans rfl
    have hx3 : wr.cell? ⟨gx, 3, none⟩ = some (.int .i64 x.f3) := (blk_cell BKX.out 3).trans rfl
    have hx5 : wr.cell? ⟨gx, 5, none⟩ = some (.slice (some ad) x.f5.length c5) := (blk_cell BKX.out 5).trans rfl
    have hq_ := HX0.out.move HBW.out; have hs0_ := hq_.a0; have hs1_ := hq_.a1; have hs2_ := hq_.a2; have hs3_ := hq_.a3; have hs4_ := hq_.a4; have hs5_ := hq_.a5; clear hq_
    by_cases hlt : j < x.f2.toNat
    · first | (exact absurd hlt (Nat.not_lt_zero _)) | (have hlx : (j : Int) < x.f2 := (by omega); have HJL := Aside0.mk hlt; have HLE := Aside0.mk (show (buildF n (rd_T26 x.f5 0) (timesF (buildF n (rd_T26 x.f5 0)) j xs)).length ≤ 1000000 from (by rw [← timesF_succ (buildF n (rd_T26 x.f5 0)) j xs]; exact Nat.le_trans (timesF_mono (buildF_le n _) hlt _) HTL.out)); clear hlt; go_wp2_with (go_at_call 26; refine (IH.out (rd_T26 x.f5 0) A1_ c1_ A5_ c5_ w0 base g v1 _ wr hi1_ hl1_ hi5_ hl5_ HBW.out hw0 HIW.out (by have := HIW.out.lt; have := HIW.out.low; omega) HS.out HBD.out HLE.out).mono ?_; rintro e w4 ⟨rfl, v4, hI4, hP4⟩; have HX4 := Aside0.mk (hP4.blk BKX.out (blk_ne BKX.out HIW.out.blk (by decide)) (HIW.out.apart BKX.out (by decide))); have HI4 := Aside0.mk hI4; have HP4 := Aside0.mk (HPW.out.trans hP4); clear hI4 hP4); go_roundg (x.f2.toNat - (j + 1)); (case measure => have h1 := HJ.out; have h2 := HJL.out; omega); (case rel => exact ⟨j + 1, v4, by go_num, ⟨HJL.out, rfl⟩, ⟨by rw [timesF_succ]; exact HI4.out⟩, HP4, ⟨HP4.out.old HB.out HZ0 HGL.out HRB.out⟩, HX4⟩))
    · have hlx : x.f2 ≤ (j : Int) := by omega
      have HJE := Aside0.mk (show j = x.f2.toNat from by have := HJ.out; omega)
      clear hlt
      replace HIW := Aside0.mk (HJE.out ▸ HIW.out)
      go_wp2
      clear hs0_ hs1_ hs2_ hs3_ hs4_ hs5_ hx2 hx3 hx5 hlx
      go_loopg [7, 55] (x.f3 - x.f2).toNat (fun kq v7 v55 w' => ∃ (m : Nat) (l : List S38) (o : List Nat) (ps : List (Nat × Nat)) (v1 : Value), v55 = .int .i64 m ∧ Aside0 (m ≤ (x.f3 - x.f2).toNat ∧ kq = (x.f3 - x.f2).toNat - m) ∧ Aside0 (optGo (buildF n (rd_T26 x.f5 0)) ((x.f3 - x.f2).toNat - m) l o = optGo (buildF n (rd_T26 x.f5 0)) (x.f3 - x.f2).toNat (timesF (buildF n (rd_T26 x.f5 0)) x.f2.toNat xs) []) ∧ Aside0 (Outs 70 1 w' w.heap.size w.heap.size g v7 ps o) ∧ Aside0 (o.length ≤ l.length ∧ ∀ j, j < o.length → o.getD j 0 < l.length) ∧ Aside0 (IsB w' base g v1 l) ∧ Aside0 (Put g v v1 w w') ∧ Aside0 (Below w0.heap.size w0 w') ∧ Aside0 (w'.heap[gx]? = some (.cells #[.int .i64 x.f0, .slice A1 x.f1.length c1, .int .i64 x.f2, .int .i64 x.f3, .bool x.f4, .slice (some ad) x.f5.length c5] 26 (0, 0))))
      case atStart => exact ⟨0, _, [], [], v1, rfl, ⟨by omega, by omega⟩, ⟨rfl⟩, ⟨Outs.start _ _ _ _ _ _⟩, ⟨by simp⟩, HIW, HPW, HBW, BKX⟩
      case round =>
        clear HIW HPW HBW BKX HJ HJE
        obtain ⟨m, l, o, ps, v2, rfl, HMM, HOG, HO, HOL, HIW, HPW, HBW, BKX⟩ := hrel
        obtain ⟨A7, c7, rfl⟩ := Kd.R_slice HO.out.row
        obtain ⟨wo, hwo⟩ : ∃ wo : World, wo = wr := ⟨_, rfl⟩
        subst hwo
        have HFIN := Aside0.mk (show (optGo (buildF n (rd_T26 x.f5 0)) ((x.f3 - x.f2).toNat - m) l o).1.length ≤ 1000000 from by have h := HM.out; unfold optF at h; rw [backsF_length, ← HOG.out] at h; exact h)
        by_cases hlt : m < (x.f3 - x.f2).toNat
        · have hlx : (m : Int) < x.f3 - x.f2 := by omega
          have HML := Aside0.mk hlt
          have HST := Aside0.mk (show optGo (buildF n (rd_T26 x.f5 0)) ((x.f3 - x.f2).toNat - m) l o = optGo (buildF n (rd_T26 x.f5 0)) ((x.f3 - x.f2).toNat - (m + 1)) (buildF n (rd_T26 x.f5 0) (forkF l)) (o ++ [l.length]) from by rw [show (x.f3 - x.f2).toNat - m = ((x.f3 - x.f2).toNat - (m + 1)) + 1 from (by omega)]; rfl)
          have HLE := Aside0.mk (show (buildF n (rd_T26 x.f5 0) (forkF l)).length ≤ 1000000 from by have h := HFIN.out; rw [HST.out] at h; exact Nat.le_trans (optGo_le (buildF_le n _) _ _ _) h)
          have HL1 := Aside0.mk (show l.length + 1 ≤ (buildF n (rd_T26 x.f5 0) (forkF l)).length from by have h := buildF_le n (rd_T26 x.f5 0) (forkF l); rw [forkF_length] at h; exact h)
          clear hlt
          go_wp2_with (first | (go_at_call 51; refine (fork_calls base g _ _ wo HIW.out (by have := HIW.out.lt; have := HIW.out.low; omega) (by have := HLE.out; have := HL1.out; omega)).mono ?_; rintro e w4 ⟨gb4, gn4, v4, rfl, hC4, hI4, hP4⟩; have HC4 := Aside0.mk (hC4.lower (lo' := w.heap.size) HPW.out.size); have HO4 := Aside0.mk (HO.out.put (by decide) (by decide) HIW.out hP4); have HX4 := Aside0.mk (hP4.blk BKX.out (blk_ne BKX.out HIW.out.blk (by decide)) (HIW.out.apart BKX.out (by decide))); have HI4 := Aside0.mk (show IsB w4 base g v4 (forkF l) from hI4); have HP4 := Aside0.mk (HPW.out.trans hP4); clear hC4 hI4 hP4) | ((with_reducible refine gate_dst (N := 61) rfl ?_); refine Kd.R_append (kF 70) (w0 := w4) w.heap.size (by rfl) _ _ 113 1 _ 8 (by rfl) Try.underlying113 info1 rfl (by decide) (by decide) (.slice A7 ps.length c7) ps (gb4, gn4) [encF 70 (gb4, gn4)] (fun _ => True) (fun _ => False) (by rfl) (by rfl) (by rfl) (fun _ h => h.elim) (fun _ _ => trivial) HO4.out.row (Below.refl _ _) HP4.out.size (by have h1 := HO4.out.len; have h2 := HOL.out.1; have h3 := HL1.out; have h4 := HLE.out; omega) ?_; intro u7 w7 hR7 hB7 hG7 hat7; have HO7 := Aside0.mk (HO4.out.snoc (by decide) (by decide) HC4.out hG7 hR7); have HI7 := Aside0.mk (HI4.out.grownOther HO4.out.row hG7 (by decide) (by decide)); have HX7 := Aside0.mk (blk_grown HX4.out hG7 (HO4.out.ne HX4.out (by decide))); have HP7 := Aside0.mk (HP4.out.grownNew hG7 (Kd.R_base HO4.out.row)); have HB7 := Aside0.mk (HP7.out.old HB.out HZ0 HGL.out HRB.out); clear hR7 hB7 hG7 hat7; have hx5 : w7.cell? ⟨gx, 5, none⟩ = some (.slice (some ad) x.f5.length c5) := (blk_cell HX7.out 5).trans rfl; have hq_ := HX0.out.move HB7.out; have hs0_ := hq_.a0; have hs1_ := hq_.a1; have hs2_ := hq_.a2; have hs3_ := hq_.a3; have hs4_ := hq_.a4; have hs5_ := hq_.a5; clear hq_) | (go_at_call 26; refine (IH.out (rd_T26 x.f5 0) A1_ c1_ A5_ c5_ w0 base g v4 _ w7 hi1_ hl1_ hi5_ hl5_ HB7.out hw0 HI7.out (by have := HI7.out.lt; have := HI7.out.low; omega) HS.out HBD.out HLE.out).mono ?_; rintro e w8 ⟨rfl, v8, hI8, hP8⟩; have HO8 := Aside0.mk (HO7.out.put (by decide) (by decide) HI7.out hP8); have HX8 := Aside0.mk (hP8.blk HX7.out (blk_ne HX7.out HI7.out.blk (by decide)) (HI7.out.apart HX7.out (by decide))); have HI8 := Aside0.mk hI8; have HP8 := Aside0.mk (HP7.out.trans hP8); clear hI8 hP8))
          have HOB := Aside0.mk (show (o ++ [l.length]).length ≤ (buildF n (rd_T26 x.f5 0) (forkF l)).length ∧ ∀ j, j < (o ++ [l.length]).length → (o ++ [l.length]).getD j 0 < (buildF n (rd_T26 x.f5 0) (forkF l)).length from by have h1 := HOL.out; have h2 := HL1.out; refine ⟨by simp; omega, fun j hj => ?_⟩; rcases Nat.lt_or_ge j o.length with hjl | hjl; (have h3 := h1.2 j hjl; simp only [List.getD_eq_getElem?_getD, List.getElem?_append_left hjl] at h3 ⊢; omega); (simp at hj; obtain rfl : j = o.length := (by omega); simp; omega))
          have hm1000 : (m : Int) ≤ 1000 := by have := HML.out; omega
          go_roundg ((x.f3 - x.f2).toNat - (m + 1))
          case measure => have := HMM.out; have := HML.out; omega
          case rel => exact ⟨m + 1, _, _, _, v8, by go_num, ⟨HML.out, rfl⟩, ⟨HST.out.symm.trans HOG.out⟩, HO8, HOB, HI8, HP8, ⟨HP8.out.old HB.out HZ0 HGL.out HRB.out⟩, HX8⟩
        · have hlx : x.f3 - x.f2 ≤ (m : Int) := by omega
          have HME := Aside0.mk (show m = (x.f3 - x.f2).toNat from by have := HMM.out; omega)
          have HTOT := Aside0.mk (show (l, o) = optGo (buildF n (rd_T26 x.f5 0)) (x.f3 - x.f2).toNat (timesF (buildF n (rd_T26 x.f5 0)) x.f2.toNat xs) [] from by rw [← HOG.out, HME.out, Nat.sub_self]; rfl)
          have HLL := Aside0.mk (show l.length ≤ 1000000 from by have h := HFIN.out; rw [HME.out, Nat.sub_self] at h; exact h)
          clear hlt
          go_wp2
          go_loopg [71] o.length (fun kq2 v71 w5 => ∃ (j : Nat), v71 = .int .i64 j ∧ Aside0 (j ≤ o.length ∧ kq2 = o.length - j) ∧ Aside0 (IsB w5 base g v2 (backsF l (o.take j))) ∧ Aside0 (Put g v v2 w w5) ∧ Aside0 (Outs 70 1 w5 w.heap.size w.heap.size g (.slice A7 ps.length c7) ps o))
          case atStart => exact ⟨0, rfl, ⟨by omega, by omega⟩, HIW, HPW, HO⟩
          case round =>
            clear HIW HPW HO
            obtain ⟨j, rfl, HJ5, HI5, HP5, HO5⟩ := hrel
            have hml : (backsF l (o.take j)).length = l.length := backsF_length _ _
            have hpl := HO5.out.len
            by_cases hlj : j < o.length
            · have hj0 : 0 ≤ (j : Int) := by omega
              have hj1 : (j : Int) < (ps.length : Int) := by omega
              have hjb : (j : Int) ≤ 1000000 := by have h1 := HOL.out.1; have h3 := HLL.out; omega
              obtain ⟨ad6, gb6, gn6, e6, hco, hcp⟩ := HO5.out.at_ hlj
              cases e6
              have hoj : o.getD j 0 < (backsF l (o.take j)).length := by have h1 := HOL.out.2 j hlj; omega
              have HSB := Aside0.mk (backsF_step (l := l) hlj)
              have HMB := Aside0.mk hml
              have HLJ := Aside0.mk hlj
              have HCP := Aside0.mk hcp
              clear hml hpl hcp
              obtain ⟨nj, hnj⟩ : ∃ nj, nj = o.getD j 0 := ⟨_, rfl⟩
              rw [← hnj] at hoj
              have HNJ := Aside0.mk hnj
              clear hnj
              replace HCP := HNJ.out ▸ HCP.out
              have HCQ := Aside0.mk HCP
              clear HCP
              go_wp2_with (first | (go_at_call 70; refine (fork1_calls w.heap.size base g gb6 gn6 nj _ _ wr HI5.out HCQ.out hoj (by have := HMB.out; have := HLL.out; omega)).mono ?_; rintro e w6 ⟨rfl, hI6, hP6⟩; have HO6 := Aside0.mk (HO5.out.put (by decide) (by decide) HI5.out hP6); have HI6 := Aside0.mk hI6; have HP6 := Aside0.mk (HP5.out.trans hP6); clear hI6 hP6))
              go_roundg (o.length - (j + 1))
              case measure => have := HJ5.out; have := HLJ.out; omega
              case rel => exact ⟨j + 1, by go_num, ⟨HLJ.out, rfl⟩, ⟨by rw [HSB.out, ← HNJ.out]; exact HI6.out⟩, HP6, HO6⟩
            · have hnot : ps.length ≤ j := by omega
              have HEND := Aside0.mk (show backsF l (o.take j) = optF (buildF n (rd_T26 x.f5 0)) (x.f3 - x.f2).toNat (timesF (buildF n (rd_T26 x.f5 0)) x.f2.toNat xs) from by have h1 := HJ5.out; have h2 : j = o.length := (by omega); unfold optF; rw [← HTOT.out, h2, List.take_length])
              clear hml hpl
              go_wp2
              go_end0
              exact ⟨rfl, v2, by rw [← HEND.out]; exact HI5.out, HP5.out⟩
end Go.Proofs.Ytbgfobdlnlkfiaa.A
/- The builder's build, at every right tree. -/
namespace Go.Proofs.Ytbgfobdlnlkfiaa.A
open Go.RowKit Go.Proofs.YtbgfobdlnlkfiaaW.PrintWords Go.Proofs.YtbgfobdlnlkfiaaW.PrintLast Go.Proofs.YtbgfobdlnlkfiaaW.PrintMore
attribute [local go_sem] max2_int min2_int max_two min_two max_three min_three max_four min_four
set_option linter.unusedVariables false
set_option linter.unusedSimpArgs false


set_option maxHeartbeats 8000000 in
set_option maxRecDepth 100000 in
theorem build_empty (x : S26) (A1 : Option Addr) (c1 : Nat) (A5 : Option Addr) (c5 : Nat) (base g : Nat) (v : Value) (xs : List S38) (w : World)
    (hI : IsB w base g v xs) (n2 : (x.f0 == 2) = false) (n6 : (x.f0 == 6) = false) (n7 : (x.f0 == 7) = false) (n8 : (x.f0 == 8) = false) (n9 : (x.f0 == 9) = false) (n3 : (x.f0 == 3) = false) (n4 : (x.f0 == 4) = false) (n5 : (x.f0 == 5) = false) :
    Calls Try.prog 26 #[.pointer (some ⟨g, 0, none⟩), .agg #[.int .i64 x.f0, .slice A1 x.f1.length c1, .int .i64 x.f2, .int .i64 x.f3, .bool x.f4, .slice A5 x.f5.length c5]] w fun e w' => e = .returned (.tuple #[]) ∧ ∃ v', IsB w' base g v' xs ∧ Put g v v' w w' := by
  have hu26 := Try.underlying26
  have hu38 := Try.underlying38
  have HI := Aside0.mk hI
  have HB := Aside0.mk (Below.refl w.heap.size w)
  have HZ0 := Nat.le_refl w.heap.size
  clear hI
  go_enter Try.func26, Try.ntmps26
  go_wp2_with (first | ((with_reducible refine gate_dst (N := 3) rfl ?_); refine box_event ?hg (N := 3) ?hd (cs := #[.int .i64 x.f0, .slice A1 x.f1.length c1, .int .i64 x.f2, .int .i64 x.f3, .bool x.f4, .slice A5 x.f5.length c5]) (t := 26) ?hr ?_; (case hd => rfl); (case hg => rfl); (case hr => first | (go_simp; done) | (go_simp; rfl)); intro gx hgx_ w1 hbox hb; have HG_gx := Aside0.mk hgx_; clear hgx_; have BKX := Aside0.mk hbox; have HBX := Aside0.mk hb; have HIX := Aside0.mk (HI.out.below hb); have HZX := hb.size; have HB0 := Aside0.mk (below_then HB.out HZ0 hb); clear hbox hb; have hx0 : w1.cell? ⟨gx, 0, none⟩ = some (.int .i64 x.f0) := (blk_cell BKX.out 0).trans rfl; have hx1 : w1.cell? ⟨gx, 1, none⟩ = some (.slice A1 x.f1.length c1) := (blk_cell BKX.out 1).trans rfl; have hx2 : w1.cell? ⟨gx, 2, none⟩ = some (.int .i64 x.f2) := (blk_cell BKX.out 2).trans rfl; have hx3 : w1.cell? ⟨gx, 3, none⟩ = some (.int .i64 x.f3) := (blk_cell BKX.out 3).trans rfl; have hx4 : w1.cell? ⟨gx, 4, none⟩ = some (.bool x.f4) := (blk_cell BKX.out 4).trans rfl; have hx5 : w1.cell? ⟨gx, 5, none⟩ = some (.slice A5 x.f5.length c5) := (blk_cell BKX.out 5).trans rfl ))
  go_end0
  exact ⟨rfl, v, HIX.out, Put.of_below HBX.out⟩
/-- What repeat does at a repeat of a right tree. -/
def RepAt (n : Nat) : Prop :=
  ∀ (x : S26) (A1 : Option Addr) (c1 : Nat) (A5 : Option Addr) (c5 : Nat) (w0 : World) (base g : Nat) (v : Value) (xs : List S38) (w : World) (hr1 : k54.C w0 A1 x.f1.length x.f1) (hc1 : x.f1.length ≤ c1) (hr5 : k26.C w0 A5 x.f5.length x.f5) (hc5 : x.f5.length ≤ c5)
    (hB : Below w0.heap.size w0 w) (hw0 : w0.heap.size ≤ base) (hI : IsB w base g v xs) (hbase : base ≤ w.heap.size) (hs : rightB n (rd_T26 x.f5 0) = true) (hbd : bnd n (rd_T26 x.f5 0)) (hl1 : 0 < x.f5.length) (h20 : 0 ≤ x.f2) (h21 : x.f2 ≤ 1000) (h3 : x.f3 < 0 ∨ (x.f2 ≤ x.f3 ∧ x.f3 ≤ 1000)) (hm : (repF (decide (sizeF n (rd_T26 x.f5 0) 1 = 0)) (buildF n (rd_T26 x.f5 0)) x xs).length ≤ 1000000),
    Calls Try.prog 53 #[.pointer (some ⟨g, 0, none⟩), .agg #[.int .i64 x.f0, .slice A1 x.f1.length c1, .int .i64 x.f2, .int .i64 x.f3, .bool x.f4, .slice A5 x.f5.length c5]] w fun e w' => e = .returned (.tuple #[]) ∧ ∃ v', IsB w' base g v' (repF (decide (sizeF n (rd_T26 x.f5 0) 1 = 0)) (buildF n (rd_T26 x.f5 0)) x xs) ∧ Put g v v' w w'
theorem rep_of_build {n : Nat} (ih : BuildAt n) : RepAt n := by
  intro x A1 c1 A5 c5 w0 base g v xs w hr1 hc1 hr5 hc5 hB hw0 hI hbase hs hbd hl1 h20 h21 h3 hm
  by_cases hz : sizeF n (rd_T26 x.f5 0) 1 = 0
  · have hzb : (sizeF n (rd_T26 x.f5 0) 1 == 0) = true := by rw [hz]; rfl
    have e : decide (sizeF n (rd_T26 x.f5 0) 1 = 0) = true := decide_eq_true hz
    rw [e] at hm ⊢
    unfold repF at hm ⊢
    rw [if_pos rfl] at hm ⊢
    rcases h3 with h3 | ⟨h31, h32⟩
    · rw [if_pos h3] at hm ⊢
      exact repeat_star_z n ih x A1 c1 A5 c5 w0 base g v xs w hr1 hc1 hr5 hc5 hB hw0 hI hbase hs hbd hl1 h20 h21 h3 hzb hm
    · rw [if_neg (by omega)] at hm ⊢
      exact repeat_opt_z n ih x A1 c1 A5 c5 w0 base g v xs w hr1 hc1 hr5 hc5 hB hw0 hI hbase hs hbd hl1 h20 h21 (by omega) h31 h32 hzb hm
  · have hzb : (sizeF n (rd_T26 x.f5 0) 1 == 0) = false := beq_eq_false_iff_ne.2 hz
    have e : decide (sizeF n (rd_T26 x.f5 0) 1 = 0) = false := decide_eq_false hz
    rw [e] at hm ⊢
    unfold repF at hm ⊢
    simp only [Bool.false_eq_true, if_false] at hm ⊢
    rcases h3 with h3 | ⟨h31, h32⟩
    · rw [if_pos h3] at hm ⊢
      exact repeat_star_n n ih x A1 c1 A5 c5 w0 base g v xs w hr1 hc1 hr5 hc5 hB hw0 hI hbase hs hbd hl1 h20 h21 h3 hzb hm
    · rw [if_neg (by omega)] at hm ⊢
      exact repeat_opt_n n ih x A1 c1 A5 c5 w0 base g v xs w hr1 hc1 hr5 hc5 hB hw0 hI hbase hs hbd hl1 h20 h21 (by omega) h31 h32 hzb hm
set_option maxHeartbeats 8000000 in
set_option maxRecDepth 100000 in
theorem build_rep (n : Nat) (ih : RepAt n) (x : S26) (A1 : Option Addr) (c1 : Nat) (A5 : Option Addr) (c5 : Nat) (w0 : World) (base g : Nat) (v : Value) (xs : List S38) (w : World) (hr1 : k54.C w0 A1 x.f1.length x.f1) (hc1 : x.f1.length ≤ c1) (hr5 : k26.C w0 A5 x.f5.length x.f5) (hc5 : x.f5.length ≤ c5)
    (hB : Below w0.heap.size w0 w) (hw0 : w0.heap.size ≤ base) (hI : IsB w base g v xs) (hbase : base ≤ w.heap.size) (n2 : (x.f0 == 2) = false) (n6 : (x.f0 == 6) = false) (n7 : (x.f0 == 7) = false) (n8 : (x.f0 == 8) = false) (n9 : (x.f0 == 9) = false) (n3 : (x.f0 == 3) = false) (n4 : (x.f0 == 4) = false) (kk : (x.f0 == 5) = true)
    (hs : rightB n (rd_T26 x.f5 0) = true) (hbd : bnd n (rd_T26 x.f5 0)) (hl1 : 0 < x.f5.length) (h20 : 0 ≤ x.f2) (h21 : x.f2 ≤ 1000) (h3 : x.f3 < 0 ∨ (x.f2 ≤ x.f3 ∧ x.f3 ≤ 1000)) (hm : (repF (decide (sizeF n (rd_T26 x.f5 0) 1 = 0)) (buildF n (rd_T26 x.f5 0)) x xs).length ≤ 1000000) :
    Calls Try.prog 26 #[.pointer (some ⟨g, 0, none⟩), .agg #[.int .i64 x.f0, .slice A1 x.f1.length c1, .int .i64 x.f2, .int .i64 x.f3, .bool x.f4, .slice A5 x.f5.length c5]] w fun e w' => e = .returned (.tuple #[]) ∧ ∃ v', IsB w' base g v' (repF (decide (sizeF n (rd_T26 x.f5 0) 1 = 0)) (buildF n (rd_T26 x.f5 0)) x xs) ∧ Put g v v' w w' := by
  have hu26 := Try.underlying26; have hu38 := Try.underlying38; have HI := Aside0.mk hI; have HB := Aside0.mk hB; have HZ0 := hB.size; have HR1 := Aside0.mk hr1; have HC1 := Aside0.mk hc1; have HR5 := Aside0.mk hr5; have HC5 := Aside0.mk hc5; clear hI hB hr1 hc1 hr5 hc5
  have HC := Aside0.mk (And.intro hs (And.intro hbd (And.intro hl1 (And.intro h20 (And.intro h21 (And.intro h3 hm))))))
  have IH := Aside0.mk ih
  clear hs hm ih hbd h3 hl1 h20 h21
  go_enter Try.func26, Try.ntmps26
  go_wp2_with (first | ((with_reducible refine gate_dst (N := 3) rfl ?_); refine box_event ?hg (N := 3) ?hd (cs := #[.int .i64 x.f0, .slice A1 x.f1.length c1, .int .i64 x.f2, .int .i64 x.f3, .bool x.f4, .slice A5 x.f5.length c5]) (t := 26) ?hr ?_; (case hd => rfl); (case hg => rfl); (case hr => first | (go_simp; done) | (go_simp; rfl)); intro gx hgx_ w1 hbox hb; have HG_gx := Aside0.mk hgx_; clear hgx_; have BKX := Aside0.mk hbox; have HBX := Aside0.mk hb; have HIX := Aside0.mk (HI.out.below hb); have HZX := hb.size; have HB0 := Aside0.mk (below_then HB.out HZ0 hb); clear hbox hb; have hx0 : w1.cell? ⟨gx, 0, none⟩ = some (.int .i64 x.f0) := (blk_cell BKX.out 0).trans rfl; have hx1 : w1.cell? ⟨gx, 1, none⟩ = some (.slice A1 x.f1.length c1) := (blk_cell BKX.out 1).trans rfl; have hx2 : w1.cell? ⟨gx, 2, none⟩ = some (.int .i64 x.f2) := (blk_cell BKX.out 2).trans rfl; have hx3 : w1.cell? ⟨gx, 3, none⟩ = some (.int .i64 x.f3) := (blk_cell BKX.out 3).trans rfl; have hx4 : w1.cell? ⟨gx, 4, none⟩ = some (.bool x.f4) := (blk_cell BKX.out 4).trans rfl; have hx5 : w1.cell? ⟨gx, 5, none⟩ = some (.slice A5 x.f5.length c5) := (blk_cell BKX.out 5).trans rfl ) | (go_at_call 53; refine (IH.out x A1 c1 A5 c5 w0 base g v xs w1 HR1.out HC1.out HR5.out HC5.out HB0.out hw0 HIX.out (by omega) HC.out.1 HC.out.2.1 HC.out.2.2.1 HC.out.2.2.2.1 HC.out.2.2.2.2.1 HC.out.2.2.2.2.2.1 HC.out.2.2.2.2.2.2).mono ?_; rintro e w2 ⟨rfl, v2, hI2, hP2⟩; have HI2 := Aside0.mk hI2; have HP2 := Aside0.mk hP2; clear hI2 hP2))
  go_end0
  exact ⟨rfl, v2, HI2.out, (Put.of_below HBX.out).trans HP2.out⟩
theorem beq_f {a b : Int} (h : ¬ a = b) : (a == b) = false := beq_eq_false_iff_ne.2 h
theorem beq_t {a b : Int} (h : a = b) : (a == b) = true := beq_iff_eq.2 h
theorem build_all : ∀ n, BuildAt n
  | 0 => by
    intro x A1 c1 A5 c5 w0 base g v xs w hr1 hc1 hr5 hc5 hB hw0 hI hbase hx hbd hm
    simp [rightB] at hx
  | n + 1 => by
    have ih := build_all n
    intro x A1 c1 A5 c5 w0 base g v xs w hr1 hc1 hr5 hc5 hB hw0 hI hbase hx hbd hm
    simp only [rightB, Bool.and_eq_true] at hx
    obtain ⟨hx, hs⟩ := hx
    obtain ⟨_, _, hbs⟩ := hbd
    have hmx : x.f5.length ≤ 9223372036854775807 := hr5.2.1
    have hle := buildF_le (n + 1) x xs
    unfold nodeB at hx
    unfold buildF at hm hle ⊢
    by_cases k2 : x.f0 = 2
    · rw [if_neg (by omega), if_pos k2] at hx
      rw [if_pos k2] at hm ⊢
      simp only [Bool.and_eq_true] at hx
      exact build_set n x A1 c1 A5 c5 w0 base g v xs w hr1 hc1 hr5 hc5 hB hw0 hI hbase (beq_t k2) hx.1.1.1.2 (by simp at hm; omega)
    rw [if_neg k2] at hm ⊢
    by_cases k6 : x.f0 = 6
    · rw [if_pos k6] at hm ⊢
      exact build_leaf6 x A1 c1 A5 c5 base g v xs w hI hbase (beq_f k2) (beq_t k6) (by simp at hm; omega)
    rw [if_neg k6] at hm ⊢
    by_cases k7 : x.f0 = 7
    · rw [if_pos k7] at hm ⊢
      exact build_leaf7 x A1 c1 A5 c5 base g v xs w hI hbase (beq_f k2) (beq_f k6) (beq_t k7) (by simp at hm; omega)
    rw [if_neg k7] at hm ⊢
    by_cases k8 : x.f0 = 8
    · rw [if_pos k8] at hm ⊢
      exact build_leaf8 x A1 c1 A5 c5 base g v xs w hI hbase (beq_f k2) (beq_f k6) (beq_f k7) (beq_t k8) (by simp at hm; omega)
    rw [if_neg k8] at hm ⊢
    by_cases k9 : x.f0 = 9
    · rw [if_pos k9] at hm ⊢
      exact build_leaf9 x A1 c1 A5 c5 base g v xs w hI hbase (beq_f k2) (beq_f k6) (beq_f k7) (beq_f k8) (beq_t k9) (by simp at hm; omega)
    rw [if_neg k9] at hm ⊢
    by_cases k3 : x.f0 = 3
    · rw [if_pos k3] at hm ⊢
      exact build_row n ih x A1 c1 A5 c5 w0 base g v xs w hr1 hc1 hr5 hc5 hB hw0 hI hbase (beq_f k2) (beq_f k6) (beq_f k7) (beq_f k8) (beq_f k9) (beq_t k3) hs hbs hm hmx
    rw [if_neg k3] at hm ⊢
    by_cases k4 : x.f0 = 4
    · rw [if_pos k4] at hm ⊢
      rw [if_neg (by omega), if_neg k2, if_pos (by omega)] at hx
      simp only [Bool.and_eq_true, decide_eq_true_eq] at hx
      exact build_alt n ih x A1 c1 A5 c5 w0 base g v xs w hr1 hc1 hr5 hc5 hB hw0 hI hbase (beq_f k2) (beq_f k6) (beq_f k7) (beq_f k8) (beq_f k9) (beq_f k3) (beq_t k4) hs hbs hx.1.1.1.1 hm hmx
    rw [if_neg k4] at hm ⊢
    by_cases k5 : x.f0 = 5
    · rw [if_pos k5] at hm ⊢
      rw [if_neg (by omega), if_neg k2, if_neg (by omega), if_pos k5] at hx
      simp only [Bool.and_eq_true, Bool.or_eq_true, decide_eq_true_eq] at hx
      obtain ⟨⟨⟨⟨⟨⟨p0, _⟩, p1⟩, p2⟩, p3⟩, p4⟩, p5⟩ := hx
      exact build_rep n (rep_of_build ih) x A1 c1 A5 c5 w0 base g v xs w hr1 hc1 hr5 hc5 hB hw0 hI hbase (beq_f k2) (beq_f k6) (beq_f k7) (beq_f k8) (beq_f k9) (beq_f k3) (beq_f k4) (beq_t k5) (all_rd (i := 0) hs (by omega)) (mem_rd (i := 0) hbs (by omega)) (by omega) p1 p2 (by omega) hm
    rw [if_neg k5] at hm ⊢
    exact build_empty x A1 c1 A5 c5 base g v xs w hI (beq_f k2) (beq_f k6) (beq_f k7) (beq_f k8) (beq_f k9) (beq_f k3) (beq_f k4) (beq_f k5)
end Go.Proofs.Ytbgfobdlnlkfiaa.A
/- Plain: how many states a tree makes, and that build makes so many. -/
namespace Go.Proofs.Ytbgfobdlnlkfiaa.A
open Go.RowKit Go.Proofs.YtbgfobdlnlkfiaaW.PrintWords Go.Proofs.YtbgfobdlnlkfiaaW.PrintLast Go.Proofs.YtbgfobdlnlkfiaaW.PrintMore
attribute [local go_sem] max2_int min2_int max_two min_two max_three min_three max_four min_four
set_option linter.unusedVariables false
set_option linter.unusedSimpArgs false

/-- How many states a right tree makes. -/
def lenF : Nat → S26 → Nat
  | 0, _ => 0
  | n + 1, x =>
    if x.f0 = 1 ∨ x.f0 = 3 then (x.f5.map (lenF n)).sum
    else if x.f0 = 4 then (x.f5.map (lenF n)).sum + 2 * (x.f5.length - 1)
    else if x.f0 = 5 then (if x.f3 < 0 then x.f2.toNat * (x.f5.map (lenF n)).sum + (x.f5.map (lenF n)).sum + 2 else x.f3.toNat * (x.f5.map (lenF n)).sum + (x.f3 - x.f2).toNat)
    else (x.f5.map (lenF n)).sum + 1
theorem times_len {f : List S38 → List S38} {s : Nat} (h : ∀ l, (f l).length = l.length + s) : ∀ n l, (timesF f n l).length = l.length + n * s
  | 0, l => by simp [timesF]
  | n + 1, l => by rw [timesF, times_len h n, h, Nat.succ_mul]; omega
theorem opt_len {f : List S38 → List S38} {s : Nat} (h : ∀ l, (f l).length = l.length + s) : ∀ n l o, (optGo f n l o).1.length = l.length + n * (s + 1)
  | 0, l, o => by simp [optGo]
  | n + 1, l, o => by rw [optGo, opt_len h n, h, forkF_length, Nat.succ_mul]; omega
theorem row_len {n : Nat} : ∀ (ys : List S26) (l : List S38), (∀ y ∈ ys, ∀ l, (buildF n y l).length = l.length + lenF n y) → (ys.foldl (fun l y => buildF n y l) l).length = l.length + (ys.map (lenF n)).sum
  | [], l, _ => by simp
  | y :: ys, l, h => by
    rw [List.foldl_cons, row_len ys _ (fun z hz => h z (List.mem_cons_of_mem _ hz)), h y List.mem_cons_self, List.map_cons, List.sum_cons]
    omega
theorem alt_len {n : Nat} : ∀ (ys : List S26) (l : List S38) (o : List Nat), (∀ y ∈ ys, ∀ l, (buildF n y l).length = l.length + lenF n y) → (altGo (buildF n) ys l o).1.length = l.length + (ys.map (lenF n)).sum + 2 * (ys.length - 1)
  | [], l, o, _ => by simp [altGo]
  | [y], l, o, h => by simp [altGo, h y]
  | y :: z :: r, l, o, h => by
    rw [altGo, alt_len (z :: r) _ _ (fun q hq => h q (List.mem_cons_of_mem _ hq)), setBF_length, forkF_length, h y List.mem_cons_self, forkF_length]
    simp only [List.map_cons, List.sum_cons, List.length_cons]
    omega
theorem mn_min (a b : Int) : mn a b = min a b := by
  unfold mn
  split <;> omega
theorem fold_len {n : Nat} {most : Int} (hm : 0 ≤ most) : ∀ (ys : List S26) (a : Int), 0 ≤ a → (∀ y ∈ ys, sizeF n y most = min (lenF n y : Int) most) → ys.foldl (fun s y => mn (s + sizeF n y most) most) (min a most) = min (a + ((ys.map (lenF n)).sum : Int)) most
  | [], a, _, _ => by simp
  | y :: ys, a, h0, h => by
    rw [List.foldl_cons, h y List.mem_cons_self, mn_min]
    have e : min (min a most + min (lenF n y : Int) most) most = min (a + (lenF n y : Int)) most := by omega
    rw [e, fold_len hm ys _ (by omega) (fun z hz => h z (List.mem_cons_of_mem _ hz)), List.map_cons, List.sum_cons]
    push_cast
    congr 1
    omega
theorem size_len {most : Int} (hm : 0 ≤ most) : ∀ (n : Nat) (x : S26), rightB n x = true → sizeF n x most = min (lenF n x : Int) most
  | 0, x, h => by simp [rightB] at h
  | n + 1, x, h => by
    simp only [rightB, Bool.and_eq_true] at h
    obtain ⟨hn, ha⟩ := h
    have hf := fold_len (n := n) hm x.f5 0 (Int.le_refl _) (fun y hy => size_len hm n y (List.all_eq_true.1 ha y hy))
    have e0 : min (0 : Int) most = 0 := by omega
    rw [e0, Int.zero_add] at hf
    rw [sizeF]
    simp only [hf]
    rw [lenF]
    generalize (x.f5.map (lenF n)).sum = s
    rw [mn_min]
    unfold nodeB at hn
    by_cases h1 : x.f0 = 1 ∨ x.f0 = 3
    · rw [if_pos h1, if_pos h1]; omega
    · rw [if_neg h1, if_neg h1]
      by_cases h4 : x.f0 = 4
      · rw [if_pos h4, if_pos h4]
        rw [if_neg (by omega), if_neg (by omega), if_pos (by omega)] at hn
        simp only [Bool.and_eq_true, decide_eq_true_eq] at hn
        omega
      · rw [if_neg h4, if_neg h4]
        by_cases h5 : x.f0 = 5
        · rw [if_pos h5, if_pos h5]
          rw [if_neg (by omega), if_neg (by omega), if_neg (by omega), if_pos h5] at hn
          simp only [Bool.and_eq_true, Bool.or_eq_true, decide_eq_true_eq] at hn
          obtain ⟨⟨⟨⟨⟨⟨a1, a2⟩, a3⟩, a4⟩, a5⟩, a6⟩, a7⟩ := hn
          by_cases h3 : x.f3 < 0
          · rw [if_pos h3, if_pos h3]
            obtain ⟨q, hq⟩ := Int.eq_ofNat_of_zero_le a3
            rw [hq, Int.toNat_natCast]
            push_cast
            by_cases hs : (s : Int) ≤ most
            · rw [Int.min_eq_left hs]
              omega
            · have e : min (s : Int) most = most := by omega
              rw [e]
              have m1 := Int.mul_nonneg (Int.natCast_nonneg q) hm
              have m2 := Int.mul_nonneg (Int.natCast_nonneg q) (Int.natCast_nonneg s)
              omega
          · rw [if_neg h3, if_neg h3]
            obtain ⟨q, hq⟩ := Int.eq_ofNat_of_zero_le a3
            obtain ⟨p, hp⟩ := Int.eq_ofNat_of_zero_le (show 0 ≤ x.f3 from by omega)
            have hle : q ≤ p := by omega
            obtain ⟨d, rfl⟩ := Nat.exists_eq_add_of_le hle
            rw [hq, hp, Int.toNat_natCast]
            have e1 : (((q + d : Nat) : Int) - (q : Int)) = (d : Int) := by omega
            rw [e1, Int.toNat_natCast]
            push_cast
            have m1 := Int.mul_nonneg (Int.natCast_nonneg q) hm
            have m2 := Int.mul_nonneg (Int.natCast_nonneg d) hm
            have m3 := Int.mul_nonneg (Int.natCast_nonneg q) (Int.natCast_nonneg s)
            have m4 := Int.mul_nonneg (Int.natCast_nonneg d) (Int.natCast_nonneg s)
            by_cases hs : (s : Int) ≤ most
            · rw [Int.min_eq_left hs, Int.add_mul, Int.mul_add, Int.mul_one, Int.add_assoc]
            · have e : min (s : Int) most = most := by omega
              rw [e, Int.add_mul, Int.mul_add, Int.mul_one]
              rcases Nat.eq_zero_or_pos (q + d) with h0 | h0
              · have hq0 : q = 0 := by omega
                have hd0 : d = 0 := by omega
                subst hq0
                subst hd0
                simp
              · have m5 : most ≤ ((q : Int) + d) * most := by
                  have := Int.mul_le_mul_of_nonneg_right (show (1 : Int) ≤ (q : Int) + d from by omega) hm
                  omega
                have m6 : (s : Int) ≤ ((q : Int) + d) * s := by
                  have := Int.mul_le_mul_of_nonneg_right (show (1 : Int) ≤ (q : Int) + d from by omega) (Int.natCast_nonneg s)
                  omega
                rw [Int.add_mul] at m5 m6
                omega
        · rw [if_neg h5, if_neg h5]; omega
theorem len_build : ∀ (n : Nat) (x : S26), rightB n x = true → ∀ l, (buildF n x l).length = l.length + lenF n x
  | 0, x, h => by simp [rightB] at h
  | n + 1, x, h => by
    intro l
    simp only [rightB, Bool.and_eq_true] at h
    obtain ⟨hn, ha⟩ := h
    have ih : ∀ y ∈ x.f5, ∀ l, (buildF n y l).length = l.length + lenF n y := fun y hy => len_build n y (List.all_eq_true.1 ha y hy)
    rw [lenF]
    unfold nodeB at hn
    by_cases hl : x.f0 = 1 ∨ x.f0 = 6 ∨ x.f0 = 7 ∨ x.f0 = 8 ∨ x.f0 = 9
    · rw [if_pos hl] at hn
      simp only [Bool.and_eq_true, decide_eq_true_eq] at hn
      have h5 : x.f5 = [] := List.eq_nil_of_length_eq_zero hn.1.1.1.1
      rcases hl with h | h | h | h | h <;> simp [buildF, h, h5]
    · rw [if_neg hl] at hn
      by_cases h2 : x.f0 = 2
      · rw [if_pos h2] at hn
        simp only [Bool.and_eq_true, decide_eq_true_eq] at hn
        have h5 : x.f5 = [] := List.eq_nil_of_length_eq_zero hn.1.1.1.1
        simp [buildF, h2, h5]
      · rw [if_neg h2] at hn
        by_cases h3 : x.f0 = 3
        · simp only [buildF, h3]
          simpa using row_len x.f5 l ih
        · by_cases h4 : x.f0 = 4
          · have h := alt_len x.f5 l [] ih
            have hb : buildF (n + 1) x l = altF (buildF n) x.f5 l := by simp [buildF, h4]
            rw [hb]
            unfold altF
            rw [outsF_length, h, if_neg (show ¬(x.f0 = 1 ∨ x.f0 = 3) from by omega), if_pos h4]
            omega
          · rw [if_neg (by omega)] at hn
            by_cases h5 : x.f0 = 5
            · rw [if_pos h5] at hn
              simp only [Bool.and_eq_true, Bool.or_eq_true, decide_eq_true_eq] at hn
              obtain ⟨⟨⟨⟨⟨⟨a1, a2⟩, a3⟩, a4⟩, a5⟩, a6⟩, a7⟩ := hn
              obtain ⟨y, hy⟩ := List.length_eq_one_iff.1 a1
              have hr : rd_T26 x.f5 0 = y := by simp [rd_T26, hy]
              have hyl := ih y (by rw [hy]; exact List.mem_cons_self)
              have hyr := List.all_eq_true.1 ha y (by rw [hy]; exact List.mem_cons_self)
              have hsz := size_len (most := 1) (by omega) n y hyr
              have hs : (x.f5.map (lenF n)).sum = lenF n y := by rw [hy]; simp
              have ht : ∀ m, (timesF (buildF n y) (if decide (sizeF n y 1 = 0) = true then 0 else m) l).length = l.length + m * lenF n y := by
                intro m
                rw [times_len hyl]
                by_cases hz : sizeF n y 1 = 0
                · have : lenF n y = 0 := by omega
                  simp [this]
                · simp [hz]
              have hb : buildF (n + 1) x l = repF (decide (sizeF n y 1 = 0)) (buildF n y) x l := by
                simp [buildF, h5, hr]
              rw [hb, hs]
              unfold repF
              rw [if_neg (show ¬(x.f0 = 1 ∨ x.f0 = 3) from by omega), if_neg h4, if_pos h5]
              by_cases h : x.f3 < 0
              · rw [if_pos h, if_pos h]
                unfold starF
                rw [setBF_length, setABF_length, forkF_length, hyl, forkF_length, ht]
                omega
              · rw [if_neg h, if_neg h]
                unfold optF
                rw [backsF_length, opt_len hyl, ht, Nat.mul_add, Nat.mul_one]
                have e : x.f3.toNat = x.f2.toNat + (x.f3 - x.f2).toNat := by omega
                rw [e, Nat.add_mul]
                omega
            · rw [if_neg h5] at hn
              cases hn
end Go.Proofs.Ytbgfobdlnlkfiaa.A
