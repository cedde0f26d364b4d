/- Several texts of this claim, laid together. -/
import Derived.Test.YtbgfobdlnlkfiaaA0
import Derived.Deep.RegionLaw
import Derived.Outline
import Derived.Lib.SliceRun
import Derived.WalkSpells
/- The automaton's builder in memory, and what its methods put, fork and jump do to it: a state is put behind the others; a fork's or jump's ways are filled in later. -/
namespace Go.Proofs.Ytbgfobdlnlkfiaa.A
open Go.RowKit Go.Proofs.YtbgfobdlnlkfiaaW.PrintWords Go.Proofs.YtbgfobdlnlkfiaaW.PrintLast Go.Proofs.YtbgfobdlnlkfiaaW.PrintMore
attribute [local go_sem] max2_int min2_int max_two min_two max_three min_three max_four min_four
set_option linter.unusedVariables false
set_option linter.unusedSimpArgs false


theorem info38 : (Try.prog.info? 38).map (fun i => (i.zero, i.size, i.bytes)) = some (some (.agg #[.int .i64 0, .slice none 0 0, .int .i64 0, .int .i64 0]), 4, 48) := by kernel_rfl

/-- A block that is new is none of an elder row's. -/
theorem R_fresh {α : Type} {d : Kd α} {e : Nat} {w w1 : World} {base : Nat} {ok : Nat → Prop} {v : Value} {xs : List α} (h : d.R e w base ok v xs) (hb : Below w.heap.size w w1) {i : Nat} (hi : w.heap.size ≤ i) : d.R e w1 base (fun k => ok k ∧ k ≠ i) v xs :=
  Kd.R_mono (Kd.R_below (Kd.R_bound h) hb) (fun k hk => ⟨hk.1, by have := hk.2.2.1; omega⟩)
/-- What a call on the builder at block g (its row before: v) has turned: that block, that row, and new blocks. -/
structure Put (g : Nat) (v v' : Value) (w w' : World) : Prop where
  os : w'.os = w.os
  tape : w'.tape = w.tape
  output : w'.output = w.output
  size : w.heap.size ≤ w'.heap.size
  block : ∀ i, i < w.heap.size → i ≠ g → some i ≠ v.ownBlock → w'.heap[i]? = w.heap[i]?
  own : v'.ownBlock = v.ownBlock ∨ ∃ b, v'.ownBlock = some b ∧ w.heap.size ≤ b
theorem Put.refl (g : Nat) (v : Value) (w : World) : Put g v v w w := ⟨rfl, rfl, rfl, Nat.le_refl _, fun _ _ _ _ => rfl, .inl rfl⟩
theorem Put.trans {g : Nat} {v v1 v2 : Value} {w w1 w2 : World} (h : Put g v v1 w w1) (k : Put g v1 v2 w1 w2) : Put g v v2 w w2 where
  os := k.os.trans h.os
  tape := k.tape.trans h.tape
  output := k.output.trans h.output
  size := Nat.le_trans h.size k.size
  block i hi hg hr := (k.block i (Nat.lt_of_lt_of_le hi h.size) hg (by
    rcases h.own with e | ⟨b, e, hb⟩
    · rw [e]; exact hr
    · rw [e]; intro e; injection e with e; omega)).trans (h.block i hi hg hr)
  own := by
    rcases k.own with e | ⟨b, e, hb⟩
    · rw [e]; exact h.own
    · exact .inr ⟨b, e, Nat.le_trans h.size hb⟩
theorem Put.below {g : Nat} {v v1 : Value} {w w1 w2 : World} (h : Put g v v1 w w1) (k : Below w1.heap.size w1 w2) : Put g v v1 w w2 where
  os := k.os.trans h.os
  tape := k.tape.trans h.tape
  output := k.output.trans h.output
  size := Nat.le_trans h.size k.size
  block i hi hg hr := (k.block i (Nat.lt_of_lt_of_le hi h.size)).trans (h.block i hi hg hr)
  own := h.own
theorem Put.of_below {g : Nat} {v : Value} {w w1 : World} (k : Below w.heap.size w w1) : Put g v v w w1 := (Put.refl g v w).below k
theorem Put.blk {g i : Nat} {v v1 : Value} {w w1 : World} {o : Obj} (h : Put g v v1 w w1) (hb : w.heap[i]? = some o) (hg : i ≠ g) (hr : some i ≠ v.ownBlock) : w1.heap[i]? = some o := (h.block i (blk_lt hb) hg hr).trans hb
/-- What lay below a base that the builder lies above of. -/
theorem Put.old {g base : Nat} {v v1 : Value} {w0 w w1 : World} (h : Put g v v1 w w1) (hb : Below base w0 w) (hbase : base ≤ w.heap.size) (hg : base ≤ g) (hv : ∀ k, v.ownBlock = some k → base ≤ k) : Below base w0 w1 where
  os := h.os.trans hb.os
  tape := h.tape.trans hb.tape
  output := h.output.trans hb.output
  size := Nat.le_trans hb.size h.size
  block i hi := (h.block i (Nat.lt_of_lt_of_le hi hbase) (by omega) (fun e => by have := hv i e.symm; omega)).trans (hb.block i hi)
/-- The builder at block g holds the states xs, in a row of its own. -/
structure IsB (w : World) (base g : Nat) (v : Value) (xs : List S38) : Prop where
  blk : w.heap[g]? = some (.cells #[v] 63 (0, 0))
  row : k38.R 38 w base (fun k => k ≠ g) v xs
  low : base ≤ g
theorem IsB.lt {w : World} {base g : Nat} {v : Value} {xs : List S38} (h : IsB w base g v xs) : g < w.heap.size := blk_lt h.blk
theorem IsB.below {w w1 : World} {base g : Nat} {v : Value} {xs : List S38} (h : IsB w base g v xs) (k : Below w.heap.size w w1) : IsB w1 base g v xs := ⟨blk_below h.blk k, Kd.R_below h.row k, h.low⟩
theorem IsB.slice {w : World} {base g : Nat} {v : Value} {xs : List S38} (h : IsB w base g v xs) : ∃ A c, v = .slice A xs.length c ∧ xs.length ≤ c := by
  obtain ⟨A, c, e, hl, _⟩ := Kd.R_reads h.row
  exact ⟨A, c, e, hl⟩
/-- A block of another type than the states' is none of the row's. -/
theorem IsB.apart {w : World} {base g : Nat} {v : Value} {xs : List S38} (h : IsB w base g v xs) {i t : Nat} {cs : Array Value} (hb : w.heap[i]? = some (.cells cs t (0, 0))) (ht : 38 ≠ t) : some i ≠ v.ownBlock := Kd.R_ne h.row hb ht

set_option maxHeartbeats 8000000 in
set_option maxRecDepth 100000 in
/-- put: the state stands behind the others, and goes on with the next one. -/
theorem put_calls (s : S38) (vr : Value) (base g : Nat) (v : Value) (xs : List S38) (w : World) (hI : IsB w base g v xs) (hs : k54.R 54 w base (fun _ => True) vr s.f1) (hbase : base ≤ w.heap.size) (hn : xs.length ≤ 1000000) :
    Calls Try.prog 49 #[.pointer (some ⟨g, 0, none⟩), .agg #[.int .i64 s.f0, vr, .int .i64 s.f2, .int .i64 s.f3]] w fun e w' => e = .returned (.int .i64 xs.length) ∧ ∃ v', IsB w' base g v' (xs ++ [{ s with f2 := xs.length + 1 }]) ∧ Put g v v' w w' := by
  have hu38 := Try.underlying38
  obtain ⟨A, c, rfl, hc⟩ := hI.slice
  obtain ⟨Ar, cr, rfl⟩ := Kd.R_slice hs
  have HI := Aside0.mk hI
  have HS := Aside0.mk hs
  have hnn := hn
  have HC := Aside0.mk hc
  clear hI hs hc hn
  go_enter Try.func49, Try.ntmps49
  go_wp2_with (first | ((with_reducible refine gate_dst (N := 3) rfl ?_); refine box_event ?hg (N := 3) ?hd (cs := #[.int .i64 s.f0, .slice Ar s.f1.length cr, .int .i64 s.f2, .int .i64 s.f3]) (t := 38) ?hr ?_; (case hd => rfl); (case hg => rfl); (case hr => first | (go_simp; done) | (go_simp; rfl)); intro gs hgx_ w1 hbox hb; have HG_gs := Aside0.mk hgx_; clear hgx_; have HB1 := Aside0.mk hb; have HI1 := Aside0.mk (HI.out.below hb); have HS1 := Aside0.mk (Kd.R_below HS.out hb); have hc0 : w1.cell? ⟨g, 0, none⟩ = some (.slice A xs.length c) := (blk_cell HI1.out.blk 0).trans rfl; have hcs := Aside0.mk hbox; have hfs2 : w1.frozen? ⟨gs, 2, none⟩ = false := blk_frozen hcs.out 2; have hs2 : w1.cell? ⟨gs, 2, none⟩ = some (.int .i64 s.f2) := (blk_cell hcs.out 2).trans rfl; clear hbox hb))
  have hne : gs ≠ g := by have := HI.out.lt; have := HG_gs.out; omega
  have hlen : (((xs.length : Int) + 1).toNat : Int) = xs.length + 1 := by omega
  have hcs' := blk_set hcs.out 2 (.int .i64 (xs.length + 1))
  have HP2 := Aside0.mk (show Put g (.slice A xs.length c) (.slice A xs.length c) w (w1.setCell ⟨gs, 2, none⟩ (.int .i64 (xs.length + 1))) from ⟨HB1.out.os, HB1.out.tape, HB1.out.output, by simpa [World.setCell] using HB1.out.size, fun i hi _ _ => (Below.heap_setCell w1 ⟨gs, 2, none⟩ _ i (by have := HG_gs.out; show i ≠ gs; omega)).trans (HB1.out.block i hi), .inl rfl⟩)
  have HI2 := Aside0.mk (show IsB (w1.setCell ⟨gs, 2, none⟩ (.int .i64 (xs.length + 1))) base g (.slice A xs.length c) xs from ⟨blk_far HI1.out.blk (Ne.symm hne) _, Kd.R_mono (Kd.R_far (p := ⟨gs, 2, none⟩) (R_fresh HI.out.row HB1.out (i := gs) (by have := HG_gs.out; omega)) (fun k hk => hk.2) _) (fun _ hk => hk.1), HI1.out.low⟩)
  have HS2 := Aside0.mk (Kd.R_set HS1.out hcs.out (by decide) 2 (.int .i64 (xs.length + 1)))
  have hsz : base ≤ (w1.setCell { block := gs, off := 2 } (Value.int IntKind.i64 (↑xs.length + 1))).heap.size := by have := HP2.out.size; omega
  generalize (w1.setCell { block := gs, off := 2 } (Value.int IntKind.i64 (↑xs.length + 1))) = w2 at hcs' HP2 HI2 HS2 hsz ⊢
  have lg : gs < w2.heap.size := blk_lt hcs'
  have lg2 : g < w2.heap.size := HI2.out.lt
  clear hfs2
  have HM := Aside0.mk (show k38.M w2.drew base (fun k => k ≠ g ∧ some k ≠ (Value.slice A xs.length c).ownBlock) { s with f2 := xs.length + 1 } [.int .i64 s.f0, .slice Ar s.f1.length cr, .int .i64 (xs.length + 1), .int .i64 s.f3] from k38_mkM w2.drew base _ { s with f2 := xs.length + 1 } (Kd.R_mono (Kd.R_drew (Kd.R_apart' (Kd.R_types HS2.out HI2.out.blk (by decide)) (Kd.R_typed HI2.out.row) (by decide))) (fun k hk => ⟨hk.1.2, hk.2⟩)))
  have HR2 := Aside0.mk (Kd.R_drew HI2.out.row)
  have HGB := Aside0.mk HI2.out.blk
  have HGR := Aside0.mk (IsB.apart HI2.out HI2.out.blk (by decide))
  have hs0 : w2.cell? ⟨gs, 0, none⟩ = some (.int .i64 s.f0) := (blk_cell hcs' 0).trans rfl
  have hs1 : w2.cell? ⟨gs, 1, none⟩ = some (.slice Ar s.f1.length cr) := (blk_cell hcs' 1).trans rfl
  have hs2 : w2.cell? ⟨gs, 2, none⟩ = some (.int .i64 (xs.length + 1)) := (blk_cell hcs' 2).trans rfl
  have hs3 : w2.cell? ⟨gs, 3, none⟩ = some (.int .i64 s.f3) := (blk_cell hcs' 3).trans rfl
  have hc0 : w2.cell? ⟨g, 0, none⟩ = some (.slice A xs.length c) := (blk_cell HI2.out.blk 0).trans rfl
  clear hcs'
  go_region_law (refine Kd.R_append_step k38 (W := w2.drew) (w0 := w2.drew) base (by rfl) _ _ 27 38 _ 48 (by rfl) Try.underlying27 info38 rfl (by decide) (by decide) (.slice A xs.length c) xs { s with f2 := xs.length + 1 } [.int .i64 s.f0, .slice Ar s.f1.length cr, .int .i64 (xs.length + 1), .int .i64 s.f3] (fun k => k ≠ g) (fun k => k ≠ g ∧ some k ≠ (Value.slice A xs.length c).ownBlock) (by rfl) (by rfl) HM.out (fun _ hk => hk) (fun k hk => by have : w2.heap.size ≤ k := hk; omega) HR2.out (Below.refl _ _) hsz (by omega) ?_; intro v1 w3 hR hB hG hat; obtain ⟨A3, c3, rfl⟩ := Kd.R_slice hR; (simp only [List.length_append, List.length_cons, List.length_nil, Nat.zero_add] at hR hat); have HG3 := Aside0.mk hG; have HR3 := Aside0.mk hR; have HT3 := Aside0.mk hat; have HB3 := Aside0.mk (blk_grown (w := w2.drew) HGB.out hG HGR.out); clear hR hB hG hat; have hc3 : w3.cell? ⟨g, 0, none⟩ = some (.slice A xs.length c) := (blk_cell HB3.out 0).trans rfl; have hf3 : w3.frozen? ⟨g, 0, none⟩ = false := blk_frozen HB3.out 0)
  all_goals
    go_wp2
    go_ret
    refine ⟨rfl, _, ⟨blk_set HB3.out 0 _, ?_, HI.out.low⟩, ?_⟩
    · exact Kd.R_mono (Kd.R_far (p := ⟨g, 0, none⟩) (Kd.R_mono HR3.out (fun k hk => hk)) (fun k hk => hk) _) (fun _ hk => hk)
    · refine HP2.out.trans ⟨HG3.out.os, HG3.out.tape, HG3.out.output, by simpa [World.setCell] using HG3.out.size, fun i hi hg hr => ?_, HT3.out⟩
      exact (Below.heap_setCell w3 ⟨g, 0, none⟩ _ i hg).trans (HG3.out.block i hi hr)
end Go.Proofs.Ytbgfobdlnlkfiaa.A
/- fork and jump of the builder, and the closures that they answer. -/
namespace Go.Proofs.Ytbgfobdlnlkfiaa.A
open Go.RowKit Go.Proofs.YtbgfobdlnlkfiaaW.PrintWords Go.Proofs.YtbgfobdlnlkfiaaW.PrintLast Go.Proofs.YtbgfobdlnlkfiaaW.PrintMore
attribute [local go_sem] max2_int min2_int max_two min_two max_three min_three max_four min_four
set_option linter.unusedVariables false
set_option linter.unusedSimpArgs false


/-- What a closure of fork or jump has captured: the builder's address, and the state's number. -/
structure Cap (w : World) (lo g gb gn : Nat) (n : Int) : Prop where
  b : w.heap[gb]? = some (.cells #[.pointer (some ⟨g, 0, none⟩)] 61 (0, 0))
  n : w.heap[gn]? = some (.cells #[.int .i64 n] 3 (0, 0))
  lob : lo ≤ gb
  lon : lo ≤ gn
theorem Cap.put {w w1 : World} {lo g gb gn base : Nat} {n : Int} {v v1 : Value} {xs : List S38} (h : Cap w lo g gb gn n) (hI : IsB w base g v xs) (hp : Put g v v1 w w1) : Cap w1 lo g gb gn n :=
  ⟨hp.blk h.b (blk_ne h.b hI.blk (by decide)) (hI.apart h.b (by decide)), hp.blk h.n (blk_ne h.n hI.blk (by decide)) (hI.apart h.n (by decide)), h.lob, h.lon⟩
theorem Cap.below {w w1 : World} {lo g gb gn : Nat} {n : Int} (h : Cap w lo g gb gn n) (hb : Below w.heap.size w w1) : Cap w1 lo g gb gn n := ⟨blk_below h.b hb, blk_below h.n hb, h.lob, h.lon⟩

theorem IsB.setFar {w : World} {base g i t : Nat} {v : Value} {xs : List S38} {cs : Array Value} (h : IsB w base g v xs) (hb : w.heap[i]? = some (.cells cs t (0, 0))) (ht : ∀ q, q ∈ 38 :: k38.E → q ≠ t) (h63 : 63 ≠ t) (j : Nat) (u : Value) : IsB (w.setCell ⟨i, j, none⟩ u) base g v xs :=
  ⟨blk_far h.blk (blk_ne h.blk hb h63) u, Kd.R_set h.row hb ht j u, h.low⟩
/-- One of a state's ways is written. -/
theorem IsB.set2 {w : World} {base g gr cr n : Nat} {xs : List S38} (h : IsB w base g (.slice (some ⟨gr, 0, none⟩) xs.length cr) xs) (hn : n < xs.length) (y : Int) :
    IsB (w.setCell ⟨gr, n * 4 + 2, none⟩ (.int .i64 y)) base g (.slice (some ⟨gr, 0, none⟩) xs.length cr) (xs.set n { rd_T38 xs n with f2 := y }) := by
  obtain ⟨cE, hcl, hM, hcc, _⟩ := Kd.R_elem h.row z38 (n : Int) (by omega) (by omega)
  obtain ⟨vr, rfl, hrr⟩ := k38_openM hM
  have hS := (Kd.R_seg h.row (n : Int) (by omega) (by omega) (seg := [.int .i64 y]) (j := 2) hcl hcc (show _ ≤ 4 by simp) (x' := { rd_T38 xs n with f2 := y }) (okp := fun k => k ≠ g ∧ k ≠ gr) (k38_mkM w base _ { rd_T38 xs n with f2 := y } hrr) (fun k hk => hk)).1
  have hne : g ≠ gr := fun e => Kd.R_away h.row (g := g) (fun k hk => hk) (by rw [e]; rfl)
  exact ⟨blk_far h.blk hne _, hS, h.low⟩
/-- One of a state's ways is written. -/
theorem IsB.set3 {w : World} {base g gr cr n : Nat} {xs : List S38} (h : IsB w base g (.slice (some ⟨gr, 0, none⟩) xs.length cr) xs) (hn : n < xs.length) (y : Int) :
    IsB (w.setCell ⟨gr, n * 4 + 3, none⟩ (.int .i64 y)) base g (.slice (some ⟨gr, 0, none⟩) xs.length cr) (xs.set n { rd_T38 xs n with f3 := y }) := by
  obtain ⟨cE, hcl, hM, hcc, _⟩ := Kd.R_elem h.row z38 (n : Int) (by omega) (by omega)
  obtain ⟨vr, rfl, hrr⟩ := k38_openM hM
  have hS := (Kd.R_seg h.row (n : Int) (by omega) (by omega) (seg := [.int .i64 y]) (j := 3) hcl hcc (show _ ≤ 4 by simp) (x' := { rd_T38 xs n with f3 := y }) (okp := fun k => k ≠ g ∧ k ≠ gr) (k38_mkM w base _ { rd_T38 xs n with f3 := y } hrr) (fun k hk => hk)).1
  have hne : g ≠ gr := fun e => Kd.R_away h.row (g := g) (fun k hk => hk) (by rw [e]; rfl)
  exact ⟨blk_far h.blk hne _, hS, h.low⟩
/-- A store into a block that is new since w0. -/
theorem Put.setNew {g i : Nat} {v v1 : Value} {w0 w : World} (h : Put g v v1 w0 w) (hi : w0.heap.size ≤ i) (j : Nat) (u : Value) : Put g v v1 w0 (w.setCell ⟨i, j, none⟩ u) :=
  ⟨h.os, h.tape, h.output, by simpa [World.setCell] using h.size, fun k hk hg hr => (Below.heap_setCell w ⟨i, j, none⟩ u k (by show k ≠ i; omega)).trans (h.block k hk hg hr), h.own⟩
set_option maxHeartbeats 8000000 in
set_option maxRecDepth 100000 in
theorem fork_calls (base g : Nat) (v : Value) (xs : List S38) (w : World) (hI : IsB w base g v xs) (hbase : base ≤ w.heap.size) (hn : xs.length ≤ 1000000) :
    Calls Try.prog 51 #[.pointer (some ⟨g, 0, none⟩)] w fun e w' => ∃ gb gn v', e = .returned (.func (.func 70) #[] #[.pointer (some ⟨gb, 0, none⟩), .pointer (some ⟨gn, 0, none⟩)]) ∧ Cap w' w.heap.size g gb gn xs.length ∧ IsB w' base g v' (xs ++ [⟨2, [], xs.length + 1, 0⟩]) ∧ Put g v v' w w' := by
  have hmf : ∀ (fn : Fn) (first cap : Array Value) (w : World), (Instr.makeFunc fn first cap).run Try.prog w = .ok (.func fn first cap) w := fun _ _ _ _ => rfl
  have hu38 := Try.underlying38
  have HI := Aside0.mk hI
  clear hI
  go_enter Try.func51, Try.ntmps51
  go_wp2_with (first | ((with_reducible refine gate_dst (N := 1) rfl ?_); refine box_event ?hg (N := 1) ?hd (cs := #[.pointer (some ⟨g, 0, none⟩)]) (t := 61) ?hr ?_; (case hd => rfl); (case hg => rfl); (case hr => first | (go_simp; done) | (go_simp; rfl)); intro gb hgx_ w1 hbox hb; have HG_gb := Aside0.mk hgx_; clear hgx_; have HB1 := Aside0.mk hb; have HI1 := Aside0.mk (HI.out.below hb); have HBK := Aside0.mk hbox; have hc0 : w1.cell? ⟨gb, 0, none⟩ = some (.pointer (some ⟨g, 0, none⟩)) := (blk_cell hbox 0).trans rfl; have HZ1 := hb.size; clear hbox hb) | (go_at_call 49; refine (put_calls ⟨2, [], 0, 0⟩ (.slice none 0 0) base g v xs _ HI1.out (Kd.R_nil _ _ _ _ _) (by omega) hn).mono ?_; rintro e w2 ⟨rfl, v2, hI2, hP2⟩; have HI2 := Aside0.mk hI2; have HP2 := Aside0.mk hP2; have HBK2 := Aside0.mk (hP2.blk HBK.out (blk_ne HBK.out HI1.out.blk (by decide)) (HI1.out.apart HBK.out (by decide))); clear hI2 hP2) | ((with_reducible refine gate_dst (N := 3) rfl ?_); refine box_event ?hg (N := 3) ?hd (cs := #[.int .i64 0]) (t := 3) ?hr ?_; (case hd => rfl); (case hg => rfl); (case hr => first | (go_simp; done) | (go_simp; rfl)); intro gn hgx_ w3 hbox hb; have HG_gn := Aside0.mk hgx_; clear hgx_; have HB3 := Aside0.mk hb; have HI3 := Aside0.mk (HI2.out.below hb); have HBN := Aside0.mk hbox; have HBK3 := Aside0.mk (blk_below HBK2.out hb); have hcn : w3.cell? ⟨gn, 0, none⟩ = some (.int .i64 0) := (blk_cell hbox 0).trans rfl; have hfn : w3.frozen? ⟨gn, 0, none⟩ = false := blk_frozen hbox 0; clear hbox hb))
  have hP3 : Put g v v2 w w3 := ((Put.of_below HB1.out).trans HP2.out).below HB3.out
  have hne : gb ≠ gn := by have := blk_lt HBK2.out; have := HG_gn.out; omega
  have hln : w.heap.size ≤ gn := by have := HP2.out.size; have := HG_gn.out; omega
  go_ret
  exact ⟨gb, gn, v2, rfl, ⟨blk_far (p := ⟨gn, 0, none⟩) HBK3.out hne _, blk_set HBN.out 0 _, by have := HG_gb.out; omega, hln⟩, HI3.out.setFar HBN.out (by decide) (by decide) 0 _, hP3.setNew hln 0 _⟩
set_option maxHeartbeats 8000000 in
set_option maxRecDepth 100000 in
theorem jump_calls (base g : Nat) (v : Value) (xs : List S38) (w : World) (hI : IsB w base g v xs) (hbase : base ≤ w.heap.size) (hn : xs.length ≤ 1000000) :
    Calls Try.prog 52 #[.pointer (some ⟨g, 0, none⟩)] w fun e w' => ∃ gb gn v', e = .returned (.func (.func 71) #[] #[.pointer (some ⟨gb, 0, none⟩), .pointer (some ⟨gn, 0, none⟩)]) ∧ Cap w' w.heap.size g gb gn xs.length ∧ IsB w' base g v' (xs ++ [⟨2, [], xs.length + 1, 0⟩]) ∧ Put g v v' w w' := by
  have hmf : ∀ (fn : Fn) (first cap : Array Value) (w : World), (Instr.makeFunc fn first cap).run Try.prog w = .ok (.func fn first cap) w := fun _ _ _ _ => rfl
  have hu38 := Try.underlying38
  have HI := Aside0.mk hI
  clear hI
  go_enter Try.func52, Try.ntmps52
  go_wp2_with (first | ((with_reducible refine gate_dst (N := 1) rfl ?_); refine box_event ?hg (N := 1) ?hd (cs := #[.pointer (some ⟨g, 0, none⟩)]) (t := 61) ?hr ?_; (case hd => rfl); (case hg => rfl); (case hr => first | (go_simp; done) | (go_simp; rfl)); intro gb hgx_ w1 hbox hb; have HG_gb := Aside0.mk hgx_; clear hgx_; have HB1 := Aside0.mk hb; have HI1 := Aside0.mk (HI.out.below hb); have HBK := Aside0.mk hbox; have hc0 : w1.cell? ⟨gb, 0, none⟩ = some (.pointer (some ⟨g, 0, none⟩)) := (blk_cell hbox 0).trans rfl; have HZ1 := hb.size; clear hbox hb) | (go_at_call 49; refine (put_calls ⟨2, [], 0, 0⟩ (.slice none 0 0) base g v xs _ HI1.out (Kd.R_nil _ _ _ _ _) (by omega) hn).mono ?_; rintro e w2 ⟨rfl, v2, hI2, hP2⟩; have HI2 := Aside0.mk hI2; have HP2 := Aside0.mk hP2; have HBK2 := Aside0.mk (hP2.blk HBK.out (blk_ne HBK.out HI1.out.blk (by decide)) (HI1.out.apart HBK.out (by decide))); clear hI2 hP2) | ((with_reducible refine gate_dst (N := 3) rfl ?_); refine box_event ?hg (N := 3) ?hd (cs := #[.int .i64 0]) (t := 3) ?hr ?_; (case hd => rfl); (case hg => rfl); (case hr => first | (go_simp; done) | (go_simp; rfl)); intro gn hgx_ w3 hbox hb; have HG_gn := Aside0.mk hgx_; clear hgx_; have HB3 := Aside0.mk hb; have HI3 := Aside0.mk (HI2.out.below hb); have HBN := Aside0.mk hbox; have HBK3 := Aside0.mk (blk_below HBK2.out hb); have hcn : w3.cell? ⟨gn, 0, none⟩ = some (.int .i64 0) := (blk_cell hbox 0).trans rfl; have hfn : w3.frozen? ⟨gn, 0, none⟩ = false := blk_frozen hbox 0; clear hbox hb))
  have hP3 : Put g v v2 w w3 := ((Put.of_below HB1.out).trans HP2.out).below HB3.out
  have hne : gb ≠ gn := by have := blk_lt HBK2.out; have := HG_gn.out; omega
  have hln : w.heap.size ≤ gn := by have := HP2.out.size; have := HG_gn.out; omega
  go_ret
  exact ⟨gb, gn, v2, rfl, ⟨blk_far (p := ⟨gn, 0, none⟩) HBK3.out hne _, blk_set HBN.out 0 _, by have := HG_gb.out; omega, hln⟩, HI3.out.setFar HBN.out (by decide) (by decide) 0 _, hP3.setNew hln 0 _⟩

theorem Put.setRow {g gr n c : Nat} {w : World} (j : Nat) (u : Value) : Put g (.slice (some ⟨gr, 0, none⟩) n c) (.slice (some ⟨gr, 0, none⟩) n c) w (w.setCell ⟨gr, j, none⟩ u) :=
  ⟨rfl, rfl, rfl, by simp [World.setCell], fun k _ _ hr => Below.heap_setCell w ⟨gr, j, none⟩ u k (fun e => hr (by rw [e]; rfl)), .inl rfl⟩
theorem Put.drew {g : Nat} {v v1 : Value} {w w1 : World} (h : Put g v v1 w w1) : Put g v v1 w w1.drew := ⟨h.os, h.tape, h.output, h.size, h.block, h.own⟩
theorem IsB.drew {w : World} {base g : Nat} {v : Value} {xs : List S38} (h : IsB w base g v xs) : IsB w.drew base g v xs := ⟨h.blk, Kd.R_drew h.row, h.low⟩
/-- A state's cells, its ways among them. -/
theorem IsB.at_ {w : World} {base g n : Nat} {v : Value} {xs : List S38} (h : IsB w base g v xs) (hn : n < xs.length) : ∃ gr cr, v = .slice (some ⟨gr, 0, none⟩) xs.length cr ∧ w.cell? ⟨g, 0, none⟩ = some (.slice (some ⟨gr, 0, none⟩) xs.length cr) ∧ w.cell? ⟨gr, n * 4 + 2, none⟩ = some (.int .i64 (rd_T38 xs n).f2) ∧ w.cell? ⟨gr, n * 4 + 3, none⟩ = some (.int .i64 (rd_T38 xs n).f3) ∧ (∀ j, w.frozen? ⟨gr, j, none⟩ = false) ∧ g ≠ gr := by
  obtain ⟨gr, cr, rfl, hbr, hlr, cells, hcr⟩ := Kd.R_form h.row (by omega)
  obtain ⟨cE, hcl, hM, hcc, hfr⟩ := Kd.R_elem h.row z38 (n : Int) (by omega) (by omega)
  obtain ⟨vr, rfl, hrr⟩ := k38_openM hM
  simp only [Int.toNat_natCast] at hcc hfr
  exact ⟨gr, cr, rfl, (blk_cell h.blk 0).trans rfl, hcc 2 _ rfl, hcc 3 _ rfl, fun j => blk_frozen hcr j, fun e => Kd.R_away h.row (g := g) (fun k hk => hk) (by rw [e]; rfl)⟩

set_option maxHeartbeats 8000000 in
set_option maxRecDepth 100000 in
/-- What fork's answer does: the fork's other way goes to the next state. -/
theorem fork1_calls (lo base g gb gn n : Nat) (v : Value) (xs : List S38) (w : World) (hI : IsB w base g v xs) (hC : Cap w lo g gb gn n) (hn : n < xs.length) (hm : xs.length ≤ 1000000) :
    Calls Try.prog 70 #[.pointer (some ⟨gb, 0, none⟩), .pointer (some ⟨gn, 0, none⟩)] w fun e w' => e = .returned (.tuple #[]) ∧ IsB w' base g v (xs.set n { rd_T38 xs n with f3 := xs.length }) ∧ Put g v v w w' := by
  have hu38 := Try.underlying38
  obtain ⟨gr, cr, rfl, hc0, _, hcE, hfr, _⟩ := hI.at_ hn
  have hfE : w.frozen? ⟨gr, n * 4 + 3, none⟩ = false := hfr _
  have hcb : w.cell? ⟨gb, 0, none⟩ = some (.pointer (some ⟨g, 0, none⟩)) := (blk_cell hC.b 0).trans rfl
  have hcn : w.cell? ⟨gn, 0, none⟩ = some (.int .i64 n) := (blk_cell hC.n 0).trans rfl
  have hi0 : 0 ≤ (n : Int) := by omega
  have hi1 : (n : Int) < (xs.length : Int) := by omega
  have HI := Aside0.mk hI
  clear hI hC hfr
  go_enter Try.func70, Try.ntmps70
  go_wp2
  go_region
  go_end0
  exact ⟨rfl, (HI.out.set3 hn _).drew, (Put.setRow _ _).drew⟩

set_option maxHeartbeats 8000000 in
set_option maxRecDepth 100000 in
/-- What jump's answer does: both ways go to a state. -/
theorem jump1_calls (lo base g gb gn n : Nat) (q : Int) (v : Value) (xs : List S38) (w : World) (hI : IsB w base g v xs) (hC : Cap w lo g gb gn n) (hn : n < xs.length) (hm : xs.length ≤ 1000000) :
    Calls Try.prog 71 #[.int .i64 q, .pointer (some ⟨gb, 0, none⟩), .pointer (some ⟨gn, 0, none⟩)] w fun e w' => e = .returned (.tuple #[]) ∧ IsB w' base g v (xs.set n { rd_T38 xs n with f2 := q, f3 := q }) ∧ Put g v v w w' := by
  have hu38 := Try.underlying38
  obtain ⟨gr, cr, rfl, hc0, hcA, hcE, hfr, hgr⟩ := hI.at_ hn
  have hfA : w.frozen? ⟨gr, n * 4 + 2, none⟩ = false := hfr _
  have hfE : w.frozen? ⟨gr, n * 4 + 3, none⟩ = false := hfr _
  have hcb : w.cell? ⟨gb, 0, none⟩ = some (.pointer (some ⟨g, 0, none⟩)) := (blk_cell hC.b 0).trans rfl
  have hcn : w.cell? ⟨gn, 0, none⟩ = some (.int .i64 n) := (blk_cell hC.n 0).trans rfl
  have hi0 : 0 ≤ (n : Int) := by omega
  have hi1 : (n : Int) < (xs.length : Int) := by omega
  have HI := Aside0.mk hI
  clear hI hC hfr
  go_enter Try.func71, Try.ntmps71
  go_wp2
  go_region
  go_end0
  refine ⟨rfl, ?_, ((Put.setRow _ _).trans (Put.setRow _ _)).drew⟩
  have h3 := IsB.set3 (xs := xs.set n { rd_T38 xs n with f2 := q }) (by rw [List.length_set]; exact HI.out.set2 hn q) (by rw [List.length_set]; exact hn) q
  have hr : rd_T38 (xs.set n { rd_T38 xs n with f2 := q }) n = { rd_T38 xs n with f2 := q } := by simp [rd_T38, hn]
  rw [List.length_set, List.set_set, hr] at h3
  exact h3.drew
end Go.Proofs.Ytbgfobdlnlkfiaa.A
/- slices.Clone of ranges: the same ranges, in memory of their own. -/
namespace Go.Proofs.Ytbgfobdlnlkfiaa.A
open Go.RowKit Go.Proofs.YtbgfobdlnlkfiaaW.PrintWords Go.Proofs.YtbgfobdlnlkfiaaW.PrintLast Go.Proofs.YtbgfobdlnlkfiaaW.PrintMore
attribute [local go_sem] max2_int min2_int max_two min_two max_three min_three max_four min_four
set_option linter.unusedVariables false
set_option linter.unusedSimpArgs false


theorem below_of_grown {w w1 : World} (h : w.grownBy w1 none) : Below w.heap.size w w1 := ⟨h.os, h.tape, h.output, h.size, fun i hi => h.block i hi (by simp)⟩
set_option maxHeartbeats 8000000 in
set_option maxRecDepth 100000 in
theorem clone_calls (A : Option Addr) (c : Nat) (l : List S54) (base : Nat) (w : World) (hr : k54.C w A l.length l) (hc : l.length ≤ c) (hbase : base ≤ w.heap.size) (hl : l.length * 16 ≤ 140737488355328) :
    Calls Try.prog 50 #[.slice A l.length c] w fun e w' => ∃ v', e = .returned v' ∧ k54.R 54 w' base (fun _ => True) v' l ∧ Below w.heap.size w w' := by
  have qT : ∀ (w : World) (a : Option Addr) (n c n' c' : Nat), (binOp .eql 23 (.slice a n c) (.slice none n' c')).run Try.prog w = .ok (.bool a.isNone) w := fun w a n c n' c' => Lib.run_eql_slice_nil w _ _ a n c n' c' Try.underlying23
  have hu54 := Try.underlying54
  have HR := Aside0.mk hr
  have HC := Aside0.mk hc
  have HL := Aside0.mk hl
  clear hr hc hl
  cases A with
  | none =>
    have h0 : l = [] := by
      rcases Nat.eq_zero_or_pos l.length with h | h
      · exact List.eq_nil_of_length_eq_zero h
      · obtain ⟨ad, he, _⟩ := HR.out.2.2 h
        cases he
    subst h0
    go_enter Try.func50, Try.ntmps50
    go_wp2
    go_ret
    exact ⟨_, rfl, Kd.R_nil _ _ _ _ _, Below.refl _ _⟩
  | some ad =>
    go_enter Try.func50, Try.ntmps50
    go_wp2_with (first | ((with_reducible refine gate_dst (N := 5) rfl ?_); refine Kd.R_lit k54 (w0 := w) base 54 (by rfl) (N := 5) rfl (xs := []) (inner := []) (ok := fun _ => True) (okp := fun _ => True) ?hr (Reps.none _ _) (fun _ _ => trivial) trivial ?hB (by omega) (by simp) ?_; (case hr => first | (go_simp; done) | (go_simp; rfl)); (case hB => exact (Below.refl _ _).mono hbase); intro v1 w1 hR1 hB1 hG1 hat1; have HR1 := Aside0.mk hR1; have HB1 := Aside0.mk hB1; have HG1 := Aside0.mk (below_of_grown hG1); have HT1 := Aside0.mk hat1; have HZ1 := hB1.size; clear hR1 hB1 hG1 hat1) | ((with_reducible refine gate_dst (N := 7) rfl ?_); refine Kd.R_append_rows k54 (Rr := k54.K w) (w0 := w) base (by rfl) _ _ 23 54 _ 16 (by rfl) Try.underlying23 info54 rfl (by decide) (by decide) v1 [] l (some ad) l.length c (fun _ => True) (fun _ => False) (by rfl) (by rfl) HR1.out ?h1 ?h2 (fun _ h => h.elim) (fun _ _ => trivial) HB1.out (by omega) (by have := HL.out; simp; omega) ?_; (case h1 => exact (ReadsRow.imp_ HR.out HG1.out (fun _ _ h => h))); (case h2 => intro x cs hk; obtain rfl := k54_open hk; exact k54_mkM _ _ _ x); intro v2 w2 hR2 hB2 hG2 hat2))
    go_ret
    refine ⟨_, rfl, hR2, HG1.out.grown hG2 HG1.out.size (fun k hk => ?_)⟩
    obtain ⟨b, hb, hle⟩ := HT1.out
    rw [hb] at hk
    injection hk with hk
    omega
end Go.Proofs.Ytbgfobdlnlkfiaa.A
/- Plain: what a right tree is, how many states it makes, and which. No program in sight. -/
namespace Go.Proofs.Ytbgfobdlnlkfiaa.A
open Go.RowKit Go.Proofs.YtbgfobdlnlkfiaaW.PrintWords Go.Proofs.YtbgfobdlnlkfiaaW.PrintLast Go.Proofs.YtbgfobdlnlkfiaaW.PrintMore
attribute [local go_sem] max2_int min2_int max_two min_two max_three min_three max_four min_four
set_option linter.unusedVariables false
set_option linter.unusedSimpArgs false

/-- Ranges are a set: in order, apart, among code points. -/
def normFrom : Int → List S54 → Bool
  | _, [] => true
  | lo, r :: t => decide (lo ≤ r.f0) && decide (r.f0 ≤ r.f1) && decide (r.f1 ≤ 1114111) && normFrom (r.f1 + 2) t
def normB (l : List S54) : Bool := normFrom 0 l
/-- One node of a right tree, its subtrees apart. -/
def nodeB (x : S26) : Bool :=
  if x.f0 = 1 ∨ x.f0 = 6 ∨ x.f0 = 7 ∨ x.f0 = 8 ∨ x.f0 = 9 then decide (x.f5.length = 0) && decide (x.f1.length = 0) && decide (x.f2 = 0) && decide (x.f3 = 0) && !x.f4
  else if x.f0 = 2 then decide (x.f5.length = 0) && normB x.f1 && decide (x.f2 = 0) && decide (x.f3 = 0) && !x.f4
  else if x.f0 = 3 ∨ x.f0 = 4 then decide (2 ≤ x.f5.length) && decide (x.f1.length = 0) && decide (x.f2 = 0) && decide (x.f3 = 0) && !x.f4
  else if x.f0 = 5 then decide (x.f5.length = 1) && decide (x.f1.length = 0) && decide (0 ≤ x.f2) && decide (x.f2 ≤ 1000) && decide (-1 ≤ x.f3) && decide (x.f3 ≤ 1000) && (decide (x.f3 < 0) || decide (x.f2 ≤ x.f3))
  else false
def rightB : Nat → S26 → Bool
  | 0, _ => false
  | n + 1, x => nodeB x && x.f5.all (rightB n)
/-- No slice of a tree takes up more than memory bears. -/
def bnd : Nat → S26 → Prop
  | 0, _ => True
  | n + 1, x => x.f1.length * 16 ≤ 140737488351232 ∧ x.f5.length * 80 ≤ 140737488351232 ∧ ∀ y ∈ x.f5, bnd n y
/-- How many states, at most so many. -/
def sizeF : Nat → S26 → Int → Int
  | 0, _, _ => 0
  | n + 1, x, most =>
    let s := x.f5.foldl (fun s y => mn (s + sizeF n y most) most) 0
    mn (if x.f0 = 1 ∨ x.f0 = 3 then s
      else if x.f0 = 4 then s + 2 * (x.f5.length - 1)
      else if x.f0 = 5 then (if x.f3 < 0 then x.f2 * s + s + 2 else x.f2 * s + (x.f3 - x.f2) * (s + 1))
      else s + 1) most
def forkF (l : List S38) : List S38 := l ++ [⟨2, [], l.length + 1, 0⟩]
def setBF (l : List S38) (i : Nat) : List S38 := l.set i { rd_T38 l i with f3 := l.length }
def setABF (l : List S38) (i : Nat) (q : Int) : List S38 := l.set i { rd_T38 l i with f2 := q, f3 := q }
def altGo (b : S26 → List S38 → List S38) : List S26 → List S38 → List Nat → List S38 × List Nat
  | [], l, o => (l, o)
  | [y], l, o => (b y l, o)
  | y :: z :: r, l, o => altGo b (z :: r) (setBF (forkF (b y (forkF l))) l.length) (o ++ [(b y (forkF l)).length])
def outsF (l : List S38) (o : List Nat) : List S38 := o.foldl (fun l i => setABF l i l.length) l
def altF (b : S26 → List S38 → List S38) (ys : List S26) (l : List S38) : List S38 := outsF (altGo b ys l []).1 (altGo b ys l []).2
def timesF (f : List S38 → List S38) : Nat → List S38 → List S38
  | 0, l => l
  | n + 1, l => timesF f n (f l)
def starF (f : List S38 → List S38) (l : List S38) : List S38 := setBF (setABF (forkF (f (forkF l))) (f (forkF l)).length l.length) l.length
def optGo (f : List S38 → List S38) : Nat → List S38 → List Nat → List S38 × List Nat
  | 0, l, o => (l, o)
  | n + 1, l, o => optGo f n (f (forkF l)) (o ++ [l.length])
def backsF (l : List S38) (o : List Nat) : List S38 := o.foldl (fun l i => setBF l i) l
def optF (f : List S38 → List S38) (n : Nat) (l : List S38) : List S38 := backsF (optGo f n l []).1 (optGo f n l []).2
def repF (none : Bool) (f : List S38 → List S38) (x : S26) (l : List S38) : List S38 :=
  if x.f3 < 0 then starF f (timesF f (if none then 0 else x.f2.toNat) l) else optF f (x.f3 - x.f2).toNat (timesF f (if none then 0 else x.f2.toNat) l)
def buildF : Nat → S26 → List S38 → List S38
  | 0, _, l => l
  | n + 1, x, l =>
    if x.f0 = 2 then l ++ [⟨1, x.f1, l.length + 1, 0⟩]
    else if x.f0 = 6 then l ++ [⟨3, [], l.length + 1, 0⟩]
    else if x.f0 = 7 then l ++ [⟨4, [], l.length + 1, 0⟩]
    else if x.f0 = 8 then l ++ [⟨5, [], l.length + 1, 0⟩]
    else if x.f0 = 9 then l ++ [⟨6, [], l.length + 1, 0⟩]
    else if x.f0 = 3 then x.f5.foldl (fun l y => buildF n y l) l
    else if x.f0 = 4 then altF (buildF n) x.f5 l
    else if x.f0 = 5 then repF (decide (sizeF n (rd_T26 x.f5 0) 1 = 0)) (buildF n (rd_T26 x.f5 0)) x l
    else l
theorem forkF_length (l : List S38) : (forkF l).length = l.length + 1 := by simp [forkF]
theorem setBF_length (l : List S38) (i : Nat) : (setBF l i).length = l.length := by simp [setBF]
theorem setABF_length (l : List S38) (i : Nat) (q : Int) : (setABF l i q).length = l.length := by simp [setABF]
theorem outsF_length (o : List Nat) : ∀ l : List S38, (outsF l o).length = l.length := by
  induction o with
  | nil => exact fun _ => rfl
  | cons i o ih => exact fun l => by show (outsF (setABF l i l.length) o).length = _; rw [ih, setABF_length]
theorem backsF_length (o : List Nat) : ∀ l : List S38, (backsF l o).length = l.length := by
  induction o with
  | nil => exact fun _ => rfl
  | cons i o ih => exact fun l => by show (backsF (setBF l i) o).length = _; rw [ih, setBF_length]
theorem timesF_succ (f : List S38 → List S38) : ∀ n l, timesF f (n + 1) l = f (timesF f n l)
  | 0, _ => rfl
  | n + 1, l => timesF_succ f n (f l)
theorem timesF_add (f : List S38 → List S38) : ∀ a b l, timesF f (a + b) l = timesF f b (timesF f a l)
  | 0, b, l => by rw [Nat.zero_add]; rfl
  | a + 1, b, l => by rw [Nat.add_right_comm]; exact timesF_add f a b (f l)
/-- A step that makes no list shorter. -/
def Grows (f : List S38 → List S38) : Prop := ∀ l, l.length ≤ (f l).length
theorem timesF_le {f : List S38 → List S38} (h : Grows f) : ∀ n l, l.length ≤ (timesF f n l).length
  | 0, _ => Nat.le_refl _
  | n + 1, l => Nat.le_trans (h l) (timesF_le h n (f l))
theorem timesF_mono {f : List S38 → List S38} (h : Grows f) {a b : Nat} (hab : a ≤ b) (l : List S38) : (timesF f a l).length ≤ (timesF f b l).length := by
  obtain ⟨d, rfl⟩ := Nat.exists_eq_add_of_le hab
  rw [timesF_add]
  exact timesF_le h _ _
theorem altGo_le {b : S26 → List S38 → List S38} (h : ∀ y, Grows (b y)) : ∀ (ys : List S26) (l : List S38) (o : List Nat), l.length ≤ (altGo b ys l o).1.length
  | [], _, _ => Nat.le_refl _
  | [y], l, _ => h y l
  | y :: z :: r, l, o => by
    refine Nat.le_trans ?_ (altGo_le h (z :: r) _ _)
    have := h y (forkF l)
    rw [forkF_length] at this
    rw [setBF_length, forkF_length]
    omega
theorem optGo_le {f : List S38 → List S38} (h : Grows f) : ∀ n l o, l.length ≤ (optGo f n l o).1.length
  | 0, _, _ => Nat.le_refl _
  | n + 1, l, o => by
    refine Nat.le_trans ?_ (optGo_le h n _ _)
    have := h (forkF l)
    rw [forkF_length] at this
    omega
theorem starF_le {f : List S38 → List S38} (h : Grows f) (l : List S38) : l.length + 2 ≤ (starF f l).length := by
  unfold starF
  rw [setBF_length, setABF_length, forkF_length]
  have := h (forkF l)
  rw [forkF_length] at this
  omega
theorem foldl_le {b : S26 → List S38 → List S38} (h : ∀ y, Grows (b y)) : ∀ (ys : List S26) (l : List S38), l.length ≤ (ys.foldl (fun l y => b y l) l).length
  | [], _ => Nat.le_refl _
  | y :: r, l => Nat.le_trans (h y l) (foldl_le h r (b y l))
theorem repF_le {f : List S38 → List S38} (h : Grows f) (b : Bool) (x : S26) (l : List S38) : (timesF f (if b then 0 else x.f2.toNat) l).length ≤ (repF b f x l).length := by
  unfold repF
  generalize timesF f (if b then 0 else x.f2.toNat) l = m
  by_cases hx : x.f3 < 0
  · rw [if_pos hx]
    have := starF_le h m
    omega
  · rw [if_neg hx]
    unfold optF
    rw [backsF_length]
    exact optGo_le h _ _ _
theorem buildF_le : ∀ (n : Nat) (x : S26), Grows (buildF n x)
  | 0, _, _ => Nat.le_refl _
  | n + 1, x, l => by
    have ih := buildF_le n
    unfold buildF
    repeat' split
    all_goals try (simp; done)
    · exact foldl_le (b := buildF n) ih _ _
    · unfold altF
      rw [outsF_length]
      exact altGo_le ih _ _ _
    · exact Nat.le_trans (timesF_le (ih _) _ _) (repF_le (ih _) _ _ _)
end Go.Proofs.Ytbgfobdlnlkfiaa.A
