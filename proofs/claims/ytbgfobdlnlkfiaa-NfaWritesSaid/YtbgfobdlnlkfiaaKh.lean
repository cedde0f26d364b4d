/- Several texts of this claim, laid together. -/
import Derived.Test.YtbgfobdlnlkfiaaKd
import Derived.Test.YtbgfobdlnlkfiaaKk
import Derived.Test.YtbgfobdlnlkfiaaKe
import Derived.Test.YtbgfobdlnlkfiaaKl
import Derived.Test.YtbgfobdlnlkfiaaKf
import Derived.Test.YtbgfobdlnlkfiaaKg
import Derived.Test.YtbgfobdlnlkfiaaKb
import Derived.Deep.RegionLawGrows
import Derived.Deep.RegionHeld3
import Derived.Outline
/- rx.fits at every depth, and rx.Check. -/
namespace Go.Proofs.Ytbgfobdlnlkfiaa.A
open Go.RowKit Go.Proofs.YtbgfobdlnlkfiaaW.PrintWords Go.Proofs.YtbgfobdlnlkfiaaW.PrintLast Go.Proofs.YtbgfobdlnlkfiaaW.PrintMore
attribute [local go_sem] max2_int min2_int max_two min_two max_three min_three max_four min_four
set_option linter.unusedVariables false
set_option linter.unusedSimpArgs false


set_option maxHeartbeats 8000000 in
set_option maxRecDepth 100000 in
theorem fits_zero : FitsAt 0 := by
  intro x A1 c1 A5 c5 w h1 h2 h3 h4 hbd hn
  clear h1 h2 h3 h4 hbd
  go_enter Try.func54, Try.ntmps54
  go_wp2_with (first | ((with_reducible refine gate_dst (N := 2) rfl ?_); refine box_event ?hg (N := 2) ?hd (cs := #[.int .i64 x.f0, .slice A1 x.f1.length c1, .int .i64 x.f2, .int .i64 x.f3, .bool x.f4, .slice A5 x.f5.length c5]) (t := 26) ?hr ?_; (case hd => rfl); (case hg => rfl); (case hr => first | (go_simp; done) | (go_simp; rfl)); intro gx hgx_ w1 hbox hb; have HG_gx := Aside0.mk hgx_; clear hgx_; have HBX := Aside0.mk hb; clear hb hbox) | ((with_reducible refine gate_dst (N := 3) rfl ?_); refine box_event ?hg (N := 3) ?hd (cs := #[.int .i64 0]) (t := 3) ?hr ?_; (case hd => rfl); (case hg => rfl); (case hr => first | (go_simp; done) | (go_simp; rfl)); intro gl hgx_ w2 hbox hb; have HG_gl := Aside0.mk hgx_; clear hgx_; have HB2 := Aside0.mk (below_then HBX.out HBX.out.size hb); have hl0 : w2.cell? ⟨gl, 0, none⟩ = some (.int .i64 0) := (blk_cell hbox 0).trans rfl; clear hb hbox))
  go_ret
  exact ⟨rfl, HB2.out⟩
theorem fits_calls : ∀ n, FitsAt n := by
  intro n
  induction n with
  | zero => exact fits_zero
  | succ n ih =>
    intro x A1 c1 A5 c5 w h1 h2 h3 h4 hbd hn
    have e : ((n + 1 : Nat) : Int) = (n : Int) + 1 := by omega
    rw [e]
    by_cases hk : 1 ≤ x.f0 ∧ x.f0 ≤ 9
    · have hc : x.f0 = 1 ∨ x.f0 = 2 ∨ x.f0 = 3 ∨ x.f0 = 4 ∨ x.f0 = 5 ∨ x.f0 = 6 ∨ x.f0 = 7 ∨ x.f0 = 8 ∨ x.f0 = 9 := by omega
      rcases hc with k | k | k | k | k | k | k | k | k
      · exact fits_leaf_1 n ih (by omega) x A1 c1 A5 c5 w h1 h2 h3 h4 hbd k
      · exact fits_set n ih (by omega) x A1 c1 A5 c5 w h1 h2 h3 h4 hbd k
      · exact fits_row_3 n ih (by omega) x A1 c1 A5 c5 w h1 h2 h3 h4 hbd k
      · exact fits_row_4 n ih (by omega) x A1 c1 A5 c5 w h1 h2 h3 h4 hbd k
      · exact fits_rep n ih (by omega) x A1 c1 A5 c5 w h1 h2 h3 h4 hbd k
      · exact fits_leaf_6 n ih (by omega) x A1 c1 A5 c5 w h1 h2 h3 h4 hbd k
      · exact fits_leaf_7 n ih (by omega) x A1 c1 A5 c5 w h1 h2 h3 h4 hbd k
      · exact fits_leaf_8 n ih (by omega) x A1 c1 A5 c5 w h1 h2 h3 h4 hbd k
      · exact fits_leaf_9 n ih (by omega) x A1 c1 A5 c5 w h1 h2 h3 h4 hbd k
    · exact fits_other n ih (by omega) x A1 c1 A5 c5 w h1 h2 h3 h4 hbd hk
set_option maxHeartbeats 8000000 in
set_option maxRecDepth 100000 in
/-- rx.Check. -/
theorem check_calls (x : S26) (A1 : Option Addr) (c1 : Nat) (A5 : Option Addr) (c5 : Nat) (w : World) (h1 : k54.C w A1 x.f1.length x.f1) (h2 : x.f1.length ≤ c1) (h3 : k26.C w A5 x.f5.length x.f5) (h4 : x.f5.length ≤ c5) (hbd : bnd 1000 x) :
    Calls Try.prog 27 #[.agg #[.int .i64 x.f0, .slice A1 x.f1.length c1, .int .i64 x.f2, .int .i64 x.f3, .bool x.f4, .slice A5 x.f5.length c5]] w fun e w' => e = .returned (.int .i64 (if rightB 1000 x = true then 0 else 91)) ∧ Below w.heap.size w w' := by
  have hu26 := Try.underlying26
  have HR1 := Aside0.mk h1
  have HC1 := Aside0.mk h2
  have HR5 := Aside0.mk h3
  have HC5 := Aside0.mk h4
  have HBD := Aside0.mk hbd
  clear h1 h2 h3 h4 hbd
  obtain ⟨r, hr⟩ : ∃ r, r = rightB 1000 x := ⟨_, rfl⟩
  have HRR := Aside0.mk hr
  rw [← hr]
  clear hr
  cases r with
  | false =>
    go_enter Try.func27, Try.ntmps27
    go_wp2_with (first | ((with_reducible refine gate_dst (N := 1) rfl ?_); refine box_event ?hg (N := 1) ?hd (cs := #[.int .i64 x.f0, .slice A1 x.f1.length c1, .int .i64 x.f2, .int .i64 x.f3, .bool x.f4, .slice A5 x.f5.length c5]) (t := 26) ?hr ?_; (case hd => rfl); (case hg => rfl); (case hr => first | (go_simp; done) | (go_simp; rfl)); intro gx hgx_ w1 hbox hb; have HG_gx := Aside0.mk hgx_; clear hgx_; have HBX := Aside0.mk hb; have hx0 : w1.cell? ⟨gx, 0, none⟩ = some (.int .i64 x.f0) := (blk_cell hbox 0).trans rfl; have hx1 : w1.cell? ⟨gx, 1, none⟩ = some (.slice A1 x.f1.length c1) := (blk_cell hbox 1).trans rfl; have hx2 : w1.cell? ⟨gx, 2, none⟩ = some (.int .i64 x.f2) := (blk_cell hbox 2).trans rfl; have hx3 : w1.cell? ⟨gx, 3, none⟩ = some (.int .i64 x.f3) := (blk_cell hbox 3).trans rfl; have hx4 : w1.cell? ⟨gx, 4, none⟩ = some (.bool x.f4) := (blk_cell hbox 4).trans rfl; have hx5 : w1.cell? ⟨gx, 5, none⟩ = some (.slice A5 x.f5.length c5) := (blk_cell hbox 5).trans rfl; clear hb hbox) | (go_at_call 54; refine (fits_calls 1000 x A1 c1 A5 c5 w1 (Kd.C_below HR1.out HBX.out) HC1.out (Kd.C_below HR5.out HBX.out) HC5.out HBD.out (by omega)).mono ?_; rintro e w2 ⟨rfl, hb2⟩; rw [← HRR.out]; have HB2 := Aside0.mk (below_then HBX.out HBX.out.size hb2); clear hb2))
    go_ret
    exact ⟨rfl, HB2.out⟩
  | true =>
    go_enter Try.func27, Try.ntmps27
    go_wp2_with (first | ((with_reducible refine gate_dst (N := 1) rfl ?_); refine box_event ?hg (N := 1) ?hd (cs := #[.int .i64 x.f0, .slice A1 x.f1.length c1, .int .i64 x.f2, .int .i64 x.f3, .bool x.f4, .slice A5 x.f5.length c5]) (t := 26) ?hr ?_; (case hd => rfl); (case hg => rfl); (case hr => first | (go_simp; done) | (go_simp; rfl)); intro gx hgx_ w1 hbox hb; have HG_gx := Aside0.mk hgx_; clear hgx_; have HBX := Aside0.mk hb; have hx0 : w1.cell? ⟨gx, 0, none⟩ = some (.int .i64 x.f0) := (blk_cell hbox 0).trans rfl; have hx1 : w1.cell? ⟨gx, 1, none⟩ = some (.slice A1 x.f1.length c1) := (blk_cell hbox 1).trans rfl; have hx2 : w1.cell? ⟨gx, 2, none⟩ = some (.int .i64 x.f2) := (blk_cell hbox 2).trans rfl; have hx3 : w1.cell? ⟨gx, 3, none⟩ = some (.int .i64 x.f3) := (blk_cell hbox 3).trans rfl; have hx4 : w1.cell? ⟨gx, 4, none⟩ = some (.bool x.f4) := (blk_cell hbox 4).trans rfl; have hx5 : w1.cell? ⟨gx, 5, none⟩ = some (.slice A5 x.f5.length c5) := (blk_cell hbox 5).trans rfl; clear hb hbox) | (go_at_call 54; refine (fits_calls 1000 x A1 c1 A5 c5 w1 (Kd.C_below HR1.out HBX.out) HC1.out (Kd.C_below HR5.out HBX.out) HC5.out HBD.out (by omega)).mono ?_; rintro e w2 ⟨rfl, hb2⟩; rw [← HRR.out]; have HB2 := Aside0.mk (below_then HBX.out HBX.out.size hb2); clear hb2))
    go_ret
    exact ⟨rfl, HB2.out⟩
end Go.Proofs.Ytbgfobdlnlkfiaa.A
/- nfa.Size, at a most that is none below 0 and none over 65536. -/
namespace Go.Proofs.Ytbgfobdlnlkfiaa.A
open Go.RowKit Go.Proofs.YtbgfobdlnlkfiaaW.PrintWords Go.Proofs.YtbgfobdlnlkfiaaW.PrintLast Go.Proofs.YtbgfobdlnlkfiaaW.PrintMore
attribute [local go_sem] max2_int min2_int max_two min_two max_three min_three max_four min_four
set_option linter.unusedVariables false
set_option linter.unusedSimpArgs false


/-- How many states, and one more; 0 where the tree is not right. -/
def sizeR (x : S26) (most : Int) : Int := if rightB 1000 x = true then sizeF 1000 x most + 1 else 0
def sizeE (x : S26) : Int := if rightB 1000 x = true then 0 else 91
set_option maxHeartbeats 8000000 in
set_option maxRecDepth 100000 in
theorem size_calls (x : S26) (A1 : Option Addr) (c1 : Nat) (A5 : Option Addr) (c5 : Nat) (w : World) (h1 : k54.C w A1 x.f1.length x.f1) (h2 : x.f1.length ≤ c1) (h3 : k26.C w A5 x.f5.length x.f5) (h4 : x.f5.length ≤ c5) (hbd : bnd 1000 x) (most : Int) (hm0 : 0 ≤ most) (hm : most ≤ 65536) :
    Calls Try.prog 11 #[.agg #[.int .i64 x.f0, .slice A1 x.f1.length c1, .int .i64 x.f2, .int .i64 x.f3, .bool x.f4, .slice A5 x.f5.length c5], .int .i64 most] w fun e w' => e = .returned (.tuple #[.int .i64 (sizeR x most), .int .i64 (sizeE x)]) ∧ Below w.heap.size w w' := by
  have hu26 := Try.underlying26
  have HR1 := Aside0.mk h1
  have HC1 := Aside0.mk h2
  have HR5 := Aside0.mk h3
  have HC5 := Aside0.mk h4
  have HBD := Aside0.mk hbd
  clear h1 h2 h3 h4
  by_cases hr : rightB 1000 x = true
  · obtain ⟨he, hs0, hs1⟩ := size_ev most hm0 hm 1000 x hr hbd
    obtain ⟨ks, hks⟩ := he.rounds
    have HV := Aside0.mk hr
    obtain ⟨s, hs⟩ : ∃ s, s = sizeF 1000 x most := ⟨_, rfl⟩
    rw [← hs] at hks hs0 hs1
    have HS := Aside0.mk hs
    have HKS := Aside0.mk hks
    have hlt : ¬ (most + 1 < s + 1) := by omega
    have hmm : ¬ ((1099511627776 : Int) < most) := by omega
    clear hr hbd hks hs
    go_enter Try.func11, Try.ntmps11
    go_wp2_with (first | ((with_reducible refine gate_dst (N := 2) rfl ?_); refine box_event ?hg (N := 2) ?hd (cs := #[.int .i64 x.f0, .slice A1 x.f1.length c1, .int .i64 x.f2, .int .i64 x.f3, .bool x.f4, .slice A5 x.f5.length c5]) (t := 26) ?hr ?_; (case hd => rfl); (case hg => rfl); (case hr => first | (go_simp; done) | (go_simp; rfl)); intro gx hgx_ w1 hbox hb; have HG_gx := Aside0.mk hgx_; clear hgx_; have HBX := Aside0.mk hb; have BKX := Aside0.mk hbox; have hx0 : w1.cell? ⟨gx, 0, none⟩ = some (.int .i64 x.f0) := (blk_cell hbox 0).trans rfl; have hx1 : w1.cell? ⟨gx, 1, none⟩ = some (.slice A1 x.f1.length c1) := (blk_cell hbox 1).trans rfl; have hx2 : w1.cell? ⟨gx, 2, none⟩ = some (.int .i64 x.f2) := (blk_cell hbox 2).trans rfl; have hx3 : w1.cell? ⟨gx, 3, none⟩ = some (.int .i64 x.f3) := (blk_cell hbox 3).trans rfl; have hx4 : w1.cell? ⟨gx, 4, none⟩ = some (.bool x.f4) := (blk_cell hbox 4).trans rfl; have hx5 : w1.cell? ⟨gx, 5, none⟩ = some (.slice A5 x.f5.length c5) := (blk_cell hbox 5).trans rfl; clear hb hbox) | (go_at_call 27; refine (check_calls x A1 c1 A5 c5 w1 (Kd.C_below HR1.out HBX.out) HC1.out (Kd.C_below HR5.out HBX.out) HC5.out HBD.out).mono ?_; rintro e w2 ⟨rfl, hb2⟩; rw [if_pos HV.out]; have BKX := Aside0.mk (blk_below BKX.out hb2); have HB2 := Aside0.mk (below_then HBX.out HBX.out.size hb2); clear hb2; clear hx0 hx1 hx2 hx3 hx4 hx5; have hx0 : w2.cell? ⟨gx, 0, none⟩ = some (.int .i64 x.f0) := (blk_cell BKX.out 0).trans rfl; have hx1 : w2.cell? ⟨gx, 1, none⟩ = some (.slice A1 x.f1.length c1) := (blk_cell BKX.out 1).trans rfl; have hx2 : w2.cell? ⟨gx, 2, none⟩ = some (.int .i64 x.f2) := (blk_cell BKX.out 2).trans rfl; have hx3 : w2.cell? ⟨gx, 3, none⟩ = some (.int .i64 x.f3) := (blk_cell BKX.out 3).trans rfl; have hx4 : w2.cell? ⟨gx, 4, none⟩ = some (.bool x.f4) := (blk_cell BKX.out 4).trans rfl; have hx5 : w2.cell? ⟨gx, 5, none⟩ = some (.slice A5 x.f5.length c5) := (blk_cell BKX.out 5).trans rfl) | (go_at_call 28; refine (nfa_size.calls ks x.f0 A1 c1 x.f1 x.f2 x.f3 x.f4 A5 c5 x.f5 most s w2 (Kd.C_below HR1.out HB2.out) HC1.out (Kd.C_below HR5.out HB2.out) HC5.out HKS.out).mono ?_; rintro e w3 ⟨rfl, hb3⟩; have HB3 := Aside0.mk (below_then HB2.out HB2.out.size hb3); clear hb3))
    go_ret2
    exact ⟨by rw [sizeR, sizeE, if_pos HV.out, if_pos HV.out, ← HS.out]; rfl, HB3.out⟩
  · have HV := Aside0.mk hr
    clear hr hbd
    go_enter Try.func11, Try.ntmps11
    go_wp2_with (first | ((with_reducible refine gate_dst (N := 2) rfl ?_); refine box_event ?hg (N := 2) ?hd (cs := #[.int .i64 x.f0, .slice A1 x.f1.length c1, .int .i64 x.f2, .int .i64 x.f3, .bool x.f4, .slice A5 x.f5.length c5]) (t := 26) ?hr ?_; (case hd => rfl); (case hg => rfl); (case hr => first | (go_simp; done) | (go_simp; rfl)); intro gx hgx_ w1 hbox hb; have HG_gx := Aside0.mk hgx_; clear hgx_; have HBX := Aside0.mk hb; have BKX := Aside0.mk hbox; have hx0 : w1.cell? ⟨gx, 0, none⟩ = some (.int .i64 x.f0) := (blk_cell hbox 0).trans rfl; have hx1 : w1.cell? ⟨gx, 1, none⟩ = some (.slice A1 x.f1.length c1) := (blk_cell hbox 1).trans rfl; have hx2 : w1.cell? ⟨gx, 2, none⟩ = some (.int .i64 x.f2) := (blk_cell hbox 2).trans rfl; have hx3 : w1.cell? ⟨gx, 3, none⟩ = some (.int .i64 x.f3) := (blk_cell hbox 3).trans rfl; have hx4 : w1.cell? ⟨gx, 4, none⟩ = some (.bool x.f4) := (blk_cell hbox 4).trans rfl; have hx5 : w1.cell? ⟨gx, 5, none⟩ = some (.slice A5 x.f5.length c5) := (blk_cell hbox 5).trans rfl; clear hb hbox) | (go_at_call 27; refine (check_calls x A1 c1 A5 c5 w1 (Kd.C_below HR1.out HBX.out) HC1.out (Kd.C_below HR5.out HBX.out) HC5.out HBD.out).mono ?_; rintro e w2 ⟨rfl, hb2⟩; rw [if_neg HV.out]; have HB2 := Aside0.mk (below_then HBX.out HBX.out.size hb2); clear hb2))
    go_ret2
    exact ⟨by rw [sizeR, sizeE, if_neg HV.out, if_neg HV.out]; rfl, HB2.out⟩
end Go.Proofs.Ytbgfobdlnlkfiaa.A
/- nfa.Compile: at a right tree that is not too large, its states and the last one. -/
namespace Go.Proofs.Ytbgfobdlnlkfiaa.A
open Go.RowKit Go.Proofs.YtbgfobdlnlkfiaaW.PrintWords Go.Proofs.YtbgfobdlnlkfiaaW.PrintLast Go.Proofs.YtbgfobdlnlkfiaaW.PrintMore
attribute [local go_sem] max2_int min2_int max_two min_two max_three min_three max_four min_four
set_option linter.unusedVariables false
set_option linter.unusedSimpArgs false


theorem R_cases {α : Type} {d : Kd α} {e : Nat} {w : World} {base : Nat} {ok : Nat → Prop} {v : Value} {xs : List α} (h : d.R e w base ok v xs) : (v = .slice none 0 0 ∧ xs = []) ∨ ∃ g c, v = .slice (some ⟨g, 0, none⟩) xs.length c ∧ xs.length ≤ c := by
  obtain ⟨_, inner, ho, hr⟩ := h
  rcases ho.2 with ⟨h1, h2⟩ | ⟨g, cap, cur, h1, _, _, h2, _⟩
  · exact .inl ⟨h1, List.eq_nil_of_length_eq_zero h2⟩
  · exact .inr ⟨g, cap, h1, h2⟩
def compL (x : S26) (most : Int) : List S38 := if rightB 1000 x = true then (if sizeR x 65536 ≤ most ∧ sizeR x 65536 ≤ 65536 then buildF 1000 x [] ++ [⟨7, [], 0, 0⟩] else []) else []
def compE (x : S26) (most : Int) : Int := if rightB 1000 x = true then (if sizeR x 65536 ≤ most ∧ sizeR x 65536 ≤ 65536 then 0 else 100) else 91
theorem size_small {x : S26} (h : rightB 1000 x = true) (hs : sizeR x 65536 ≤ 65536) : ((buildF 1000 x []).length : Int) + 1 = sizeR x 65536 ∧ (buildF 1000 x []).length ≤ 65535 := by
  have h1 := size_len (most := 65536) (by omega) 1000 x h
  have h2 := len_build 1000 x h []
  unfold sizeR at hs ⊢
  rw [if_pos h] at hs ⊢
  simp only [List.length_nil, Nat.zero_add] at h2
  rw [h1] at hs ⊢
  omega
/-- A row of one more state, in new memory. -/
theorem row_ready {W : World} {base c : Nat} {A : Option Addr} {xs : List S38} (hbw : base ≤ W.heap.size) (h : k38.R 38 W base (fun _ => True) (.slice A xs.length c) xs) :
    ∃ inner, inner.length = xs.length * 4 ∧ (∀ b, A = some b → ∀ j u, inner[j]? = some u → W.cell? (b.add j) = some u) ∧
      ∀ v1 w5, w5.ownsRow W.heap.size 38 4 v1 (xs.length + 1) (inner ++ [.int .i64 7, .slice none 0 0, .int .i64 0, .int .i64 0]) → W.grownBy w5 none → k38.R 38 w5 base (fun _ => True) v1 (xs ++ [⟨7, [], 0, 0⟩]) ∧ Below W.heap.size W w5 := by
  obtain ⟨h0, inner, hown, hr⟩ := h
  refine ⟨inner, hown.1, fun b hb j u hj => ?_, fun v1 w5 hw hg => ⟨?_, below_of_grown hg⟩⟩
  · subst hb
    rcases hown.2 with ⟨h1, _⟩ | ⟨g, cap, cur, h1, _, hh, _⟩
    · cases h1
    · injection h1 with h1 _ _
      injection h1 with h1
      subst h1
      exact hown.cells rfl j u hj
  · have hat : ∃ b, v1.ownBlock = some b ∧ W.heap.size ≤ b := by
      rcases hw.2 with ⟨_, h2⟩ | ⟨g, cap, cur, rfl, hg, _⟩
      · omega
      · exact ⟨g, rfl, hg⟩
    have hg2 : W.grownBy w5 (Value.slice A xs.length c).ownBlock := ⟨hg.os, hg.tape, hg.output, hg.size, fun i hi _ => hg.block i hi (by simp)⟩
    exact Kd.R_appended (d := k38) (W := W) (v := .slice A xs.length c) (okp := fun _ => False) h0 hr (k38_mkM W base _ ⟨7, [], 0, 0⟩ (Kd.R_nil _ _ _ _ _)) (fun _ h => h.elim) (fun _ _ => trivial) (own_weaken hw hbw) hg2 (.inr hat)
set_option maxHeartbeats 8000000 in
set_option maxRecDepth 100000 in
theorem compile_calls (x : S26) (A1 : Option Addr) (c1 : Nat) (A5 : Option Addr) (c5 : Nat) (w : World) (h1 : k54.C w A1 x.f1.length x.f1) (h2 : x.f1.length ≤ c1) (h3 : k26.C w A5 x.f5.length x.f5) (h4 : x.f5.length ≤ c5) (hbd : bnd 1000 x) (most : Int) :
    Calls Try.prog 10 #[.agg #[.int .i64 x.f0, .slice A1 x.f1.length c1, .int .i64 x.f2, .int .i64 x.f3, .bool x.f4, .slice A5 x.f5.length c5], .int .i64 most] w fun e w' => ∃ v, e = .returned (.tuple #[v, .int .i64 (compE x most)]) ∧ k38.R 38 w' w.heap.size (fun _ => True) v (compL x most) ∧ Below w.heap.size w w' := by
  have hu26 := Try.underlying26
  have HR1 := Aside0.mk h1
  have HC1 := Aside0.mk h2
  have HR5 := Aside0.mk h3
  have HC5 := Aside0.mk h4
  have HBD := Aside0.mk hbd
  clear h1 h2 h3 h4 hbd
  by_cases hr : rightB 1000 x = true
  case neg =>
    have HSE := Aside0.mk (show sizeE x = 91 from by unfold sizeE; rw [if_neg hr])
    have HRS := Aside0.mk (show compL x most = [] ∧ compE x most = 91 from by unfold compL compE; rw [if_neg hr, if_neg hr]; exact ⟨rfl, rfl⟩)
    clear hr
    go_enter Try.func10, Try.ntmps10
    go_wp2_with (first | ((with_reducible refine gate_dst (N := 2) rfl ?_); refine box_event ?hg (N := 2) ?hd (cs := #[.int .i64 x.f0, .slice A1 x.f1.length c1, .int .i64 x.f2, .int .i64 x.f3, .bool x.f4, .slice A5 x.f5.length c5]) (t := 26) ?hr ?_; (case hd => rfl); (case hg => rfl); (case hr => first | (go_simp; done) | (go_simp; rfl)); intro gx hgx_ w1 hbox hb; have HG_gx := Aside0.mk hgx_; clear hgx_; have HBX := Aside0.mk hb; have BKX := Aside0.mk hbox; have hx0 : w1.cell? ⟨gx, 0, none⟩ = some (.int .i64 x.f0) := (blk_cell hbox 0).trans rfl; have hx1 : w1.cell? ⟨gx, 1, none⟩ = some (.slice A1 x.f1.length c1) := (blk_cell hbox 1).trans rfl; have hx2 : w1.cell? ⟨gx, 2, none⟩ = some (.int .i64 x.f2) := (blk_cell hbox 2).trans rfl; have hx3 : w1.cell? ⟨gx, 3, none⟩ = some (.int .i64 x.f3) := (blk_cell hbox 3).trans rfl; have hx4 : w1.cell? ⟨gx, 4, none⟩ = some (.bool x.f4) := (blk_cell hbox 4).trans rfl; have hx5 : w1.cell? ⟨gx, 5, none⟩ = some (.slice A5 x.f5.length c5) := (blk_cell hbox 5).trans rfl; clear hb hbox) | (go_at_call 11; refine (size_calls x A1 c1 A5 c5 w1 (Kd.C_below HR1.out HBX.out) HC1.out (Kd.C_below HR5.out HBX.out) HC5.out HBD.out 65536 (by omega) (by omega)).mono ?_; rintro e w2 ⟨rfl, hb2⟩; rw [HSE.out]; have BKX := Aside0.mk (blk_below BKX.out hb2); have HB2 := Aside0.mk (below_then HBX.out HBX.out.size hb2); clear hb2; clear hx0 hx1 hx2 hx3 hx4 hx5; have hx0 : w2.cell? ⟨gx, 0, none⟩ = some (.int .i64 x.f0) := (blk_cell BKX.out 0).trans rfl; have hx1 : w2.cell? ⟨gx, 1, none⟩ = some (.slice A1 x.f1.length c1) := (blk_cell BKX.out 1).trans rfl; have hx2 : w2.cell? ⟨gx, 2, none⟩ = some (.int .i64 x.f2) := (blk_cell BKX.out 2).trans rfl; have hx3 : w2.cell? ⟨gx, 3, none⟩ = some (.int .i64 x.f3) := (blk_cell BKX.out 3).trans rfl; have hx4 : w2.cell? ⟨gx, 4, none⟩ = some (.bool x.f4) := (blk_cell BKX.out 4).trans rfl; have hx5 : w2.cell? ⟨gx, 5, none⟩ = some (.slice A5 x.f5.length c5) := (blk_cell BKX.out 5).trans rfl))
    go_ret2
    exact ⟨_, by rw [HRS.out.2]; rfl, by rw [HRS.out.1]; exact Kd.R_nil _ _ _ _ _, HB2.out⟩
  case pos =>
    have HSE := Aside0.mk (show sizeE x = 0 from by unfold sizeE; rw [if_pos hr])
    have HV := Aside0.mk hr
    obtain ⟨s, hs⟩ : ∃ s, s = sizeR x 65536 := ⟨_, rfl⟩
    have HS := Aside0.mk hs
    by_cases hbig : s ≤ most ∧ s ≤ 65536
    case neg =>
      have HRS := Aside0.mk (show compL x most = [] ∧ compE x most = 100 from by unfold compL compE; rw [if_pos hr, if_pos hr, if_neg (by rw [← hs]; exact hbig), if_neg (by rw [← hs]; exact hbig)]; exact ⟨rfl, rfl⟩)
      clear hr hs
      by_cases hm : most < s
      · go_enter Try.func10, Try.ntmps10
        go_wp2_with (first | ((with_reducible refine gate_dst (N := 2) rfl ?_); refine box_event ?hg (N := 2) ?hd (cs := #[.int .i64 x.f0, .slice A1 x.f1.length c1, .int .i64 x.f2, .int .i64 x.f3, .bool x.f4, .slice A5 x.f5.length c5]) (t := 26) ?hr ?_; (case hd => rfl); (case hg => rfl); (case hr => first | (go_simp; done) | (go_simp; rfl)); intro gx hgx_ w1 hbox hb; have HG_gx := Aside0.mk hgx_; clear hgx_; have HBX := Aside0.mk hb; have BKX := Aside0.mk hbox; have hx0 : w1.cell? ⟨gx, 0, none⟩ = some (.int .i64 x.f0) := (blk_cell hbox 0).trans rfl; have hx1 : w1.cell? ⟨gx, 1, none⟩ = some (.slice A1 x.f1.length c1) := (blk_cell hbox 1).trans rfl; have hx2 : w1.cell? ⟨gx, 2, none⟩ = some (.int .i64 x.f2) := (blk_cell hbox 2).trans rfl; have hx3 : w1.cell? ⟨gx, 3, none⟩ = some (.int .i64 x.f3) := (blk_cell hbox 3).trans rfl; have hx4 : w1.cell? ⟨gx, 4, none⟩ = some (.bool x.f4) := (blk_cell hbox 4).trans rfl; have hx5 : w1.cell? ⟨gx, 5, none⟩ = some (.slice A5 x.f5.length c5) := (blk_cell hbox 5).trans rfl; clear hb hbox) | (go_at_call 11; refine (size_calls x A1 c1 A5 c5 w1 (Kd.C_below HR1.out HBX.out) HC1.out (Kd.C_below HR5.out HBX.out) HC5.out HBD.out 65536 (by omega) (by omega)).mono ?_; rintro e w2 ⟨rfl, hb2⟩; rw [HSE.out, ← HS.out]; have HB2 := Aside0.mk (below_then HBX.out HBX.out.size hb2); clear hb2; clear hx0 hx1 hx2 hx3 hx4 hx5))
        go_ret2
        exact ⟨_, by rw [HRS.out.2]; rfl, by rw [HRS.out.1]; exact Kd.R_nil _ _ _ _ _, HB2.out⟩
      · have hm2 : 65536 < s := by omega
        go_enter Try.func10, Try.ntmps10
        go_wp2_with (first | ((with_reducible refine gate_dst (N := 2) rfl ?_); refine box_event ?hg (N := 2) ?hd (cs := #[.int .i64 x.f0, .slice A1 x.f1.length c1, .int .i64 x.f2, .int .i64 x.f3, .bool x.f4, .slice A5 x.f5.length c5]) (t := 26) ?hr ?_; (case hd => rfl); (case hg => rfl); (case hr => first | (go_simp; done) | (go_simp; rfl)); intro gx hgx_ w1 hbox hb; have HG_gx := Aside0.mk hgx_; clear hgx_; have HBX := Aside0.mk hb; have BKX := Aside0.mk hbox; have hx0 : w1.cell? ⟨gx, 0, none⟩ = some (.int .i64 x.f0) := (blk_cell hbox 0).trans rfl; have hx1 : w1.cell? ⟨gx, 1, none⟩ = some (.slice A1 x.f1.length c1) := (blk_cell hbox 1).trans rfl; have hx2 : w1.cell? ⟨gx, 2, none⟩ = some (.int .i64 x.f2) := (blk_cell hbox 2).trans rfl; have hx3 : w1.cell? ⟨gx, 3, none⟩ = some (.int .i64 x.f3) := (blk_cell hbox 3).trans rfl; have hx4 : w1.cell? ⟨gx, 4, none⟩ = some (.bool x.f4) := (blk_cell hbox 4).trans rfl; have hx5 : w1.cell? ⟨gx, 5, none⟩ = some (.slice A5 x.f5.length c5) := (blk_cell hbox 5).trans rfl; clear hb hbox) | (go_at_call 11; refine (size_calls x A1 c1 A5 c5 w1 (Kd.C_below HR1.out HBX.out) HC1.out (Kd.C_below HR5.out HBX.out) HC5.out HBD.out 65536 (by omega) (by omega)).mono ?_; rintro e w2 ⟨rfl, hb2⟩; rw [HSE.out, ← HS.out]; have HB2 := Aside0.mk (below_then HBX.out HBX.out.size hb2); clear hb2; clear hx0 hx1 hx2 hx3 hx4 hx5))
        go_ret2
        exact ⟨_, by rw [HRS.out.2]; rfl, by rw [HRS.out.1]; exact Kd.R_nil _ _ _ _ _, HB2.out⟩
    case pos =>
      have HRS := Aside0.mk (show compL x most = buildF 1000 x [] ++ [⟨7, [], 0, 0⟩] ∧ compE x most = 0 from by unfold compL compE; rw [if_pos hr, if_pos hr, if_pos (by rw [← hs]; exact hbig), if_pos (by rw [← hs]; exact hbig)]; exact ⟨rfl, rfl⟩)
      obtain ⟨hb1, hb2⟩ := hbig
      have HLN := Aside0.mk (size_small hr (by omega)).2
      have hq1 : ¬ most < s := by omega
      have hq2 : ¬ (65536 : Int) < s := by omega
      clear hr hs
      go_enter Try.func10, Try.ntmps10
      go_wp2_with (first | ((with_reducible refine gate_dst (N := 2) rfl ?_); refine box_event ?hg (N := 2) ?hd (cs := #[.int .i64 x.f0, .slice A1 x.f1.length c1, .int .i64 x.f2, .int .i64 x.f3, .bool x.f4, .slice A5 x.f5.length c5]) (t := 26) ?hr ?_; (case hd => rfl); (case hg => rfl); (case hr => first | (go_simp; done) | (go_simp; rfl)); intro gx hgx_ w1 hbox hb; have HG_gx := Aside0.mk hgx_; clear hgx_; have HBX := Aside0.mk hb; have BKX := Aside0.mk hbox; have hx0 : w1.cell? ⟨gx, 0, none⟩ = some (.int .i64 x.f0) := (blk_cell hbox 0).trans rfl; have hx1 : w1.cell? ⟨gx, 1, none⟩ = some (.slice A1 x.f1.length c1) := (blk_cell hbox 1).trans rfl; have hx2 : w1.cell? ⟨gx, 2, none⟩ = some (.int .i64 x.f2) := (blk_cell hbox 2).trans rfl; have hx3 : w1.cell? ⟨gx, 3, none⟩ = some (.int .i64 x.f3) := (blk_cell hbox 3).trans rfl; have hx4 : w1.cell? ⟨gx, 4, none⟩ = some (.bool x.f4) := (blk_cell hbox 4).trans rfl; have hx5 : w1.cell? ⟨gx, 5, none⟩ = some (.slice A5 x.f5.length c5) := (blk_cell hbox 5).trans rfl; clear hb hbox) | (go_at_call 11; refine (size_calls x A1 c1 A5 c5 w1 (Kd.C_below HR1.out HBX.out) HC1.out (Kd.C_below HR5.out HBX.out) HC5.out HBD.out 65536 (by omega) (by omega)).mono ?_; rintro e w2 ⟨rfl, hb2⟩; rw [HSE.out, ← HS.out]; have BKX := Aside0.mk (blk_below BKX.out hb2); have HB2 := Aside0.mk (below_then HBX.out HBX.out.size hb2); clear hb2; clear hx0 hx1 hx2 hx3 hx4 hx5) | ((with_reducible refine gate_dst (N := 25) rfl ?_); refine box_event ?hg (N := 25) ?hd (cs := #[.slice none 0 0]) (t := 63) ?hr ?_; (case hd => rfl); (case hg => rfl); (case hr => first | (go_simp; done) | (go_simp; rfl)); intro gb hgx_ w3 hbox hb; have HG_gb := Aside0.mk hgx_; clear hgx_; have BKX := Aside0.mk (blk_below BKX.out hb); have HBB := Aside0.mk hbox; have HB3 := Aside0.mk (below_then HB2.out HB2.out.size hb); have HGB := Aside0.mk (show w.heap.size ≤ gb from by have := HG_gb.out; have := HB2.out.size; omega); clear hb hbox; have hx0 : w3.cell? ⟨gx, 0, none⟩ = some (.int .i64 x.f0) := (blk_cell BKX.out 0).trans rfl; have hx1 : w3.cell? ⟨gx, 1, none⟩ = some (.slice A1 x.f1.length c1) := (blk_cell BKX.out 1).trans rfl; have hx2 : w3.cell? ⟨gx, 2, none⟩ = some (.int .i64 x.f2) := (blk_cell BKX.out 2).trans rfl; have hx3 : w3.cell? ⟨gx, 3, none⟩ = some (.int .i64 x.f3) := (blk_cell BKX.out 3).trans rfl; have hx4 : w3.cell? ⟨gx, 4, none⟩ = some (.bool x.f4) := (blk_cell BKX.out 4).trans rfl; have hx5 : w3.cell? ⟨gx, 5, none⟩ = some (.slice A5 x.f5.length c5) := (blk_cell BKX.out 5).trans rfl) | (go_at_call 26; refine (build_all 1000 x A1 c1 A5 c5 w w.heap.size gb (.slice none 0 0) [] w3 HR1.out HC1.out HR5.out HC5.out HB3.out (Nat.le_refl _) ⟨HBB.out, Kd.R_nil _ _ _ _ _, HGB.out⟩ HB3.out.size HV.out HBD.out (by have := HLN.out; omega)).mono ?_; rintro e w4 ⟨rfl, v4, hI4, hP4⟩; have HI4 := Aside0.mk hI4; have HP4 := Aside0.mk (hP4.old HB3.out (Nat.le_trans HB3.out.size (Nat.le_refl _)) HGB.out (fun k hk => by simp [Value.ownBlock] at hk)); clear hI4 hP4 hx0 hx1 hx2 hx3 hx4 hx5))
      obtain ⟨xs, hxs⟩ : ∃ xs, xs = buildF 1000 x [] := ⟨_, rfl⟩
      rw [← hxs] at HI4 HLN HRS
      clear hxs
      have hn1 : xs.length ≤ 65535 := HLN.out
      have lg : gb < w4.heap.size := HI4.out.lt
      obtain ⟨i0, hi0, hz0, hz1, hz2⟩ := info_parts info38
      rcases R_cases HI4.out.row with ⟨rfl, hx0⟩ | ⟨gr, c, rfl, hc⟩
      · subst hx0
        have hc0 : w4.cell? ⟨gb, 0, none⟩ = some (.slice none 0 0) := (blk_cell HI4.out.blk 0).trans rfl
        obtain ⟨inner, hil, hic, hfin⟩ := row_ready (W := (w4.alloc (.cells #[.int .i64 7, .slice none 0 0, .int .i64 0, .int .i64 0] 38)).drew) (A := none) (c := 0) (xs := []) (below_drew (below_alloc HP4.out _)).size (Kd.R_drew (Kd.R_alloc (Kd.R_mono HI4.out.row (ok' := fun _ => True) (fun _ _ => trivial)) _))
        have HFIN := Aside0.mk hfin
        have HIL := Aside0.mk hil
        have HIC := Aside0.mk hic
        clear hfin hil hic
        have HNEW := Aside0.mk (show ∀ (j : Nat) (u : Value), ([.int .i64 7, .slice none 0 0, .int .i64 0, .int .i64 0] : List Value)[j]? = some u → (w4.alloc (.cells #[.int .i64 7, .slice none 0 0, .int .i64 0, .int .i64 0] 38)).drew.cell? ((⟨w4.heap.size, 0, none⟩ : Addr).add j) = some u from World.news_of_block (cs := #[.int .i64 7, .slice none 0 0, .int .i64 0, .int .i64 0]) (t := 38) (fr := (0, 0)) (heap_alloc_new w4 _))
        have HONE := Aside0.mk (show ∀ u ∈ ([.int .i64 7, .slice none 0 0, .int .i64 0, .int .i64 0] : List Value), u.oneCell' = true from by simp [Value.oneCell'])
        have HNUM := Aside0.mk (show 0 < 0 + 1 ∧ 0 + 1 ≤ maxLen ∧ (0 + 1) * 48 ≤ 140737488355328 from by unfold maxLen; omega)
        go_wp2
        go_region_held3 (fun w' => w'.cell? ⟨gb, 0, none⟩ = some (.slice none 0 0)) (first | go_keep | (rw [HF.out.2.cell (by simp; omega)]; assumption)) ((refine step_append_grows (w := (w4.alloc (.cells #[.int .i64 7, .slice none 0 0, .int .i64 0, .int .i64 0] 38)).drew) (by rfl) _ _ 27 (by rfl) 38 i0 _ 4 48 Try.underlying27 hi0 hz0 hz1 hz2 rfl (by omega) none 0 0 inner (by rfl) (fun _ => ⟨rfl, rfl⟩) HIL.out HIC.out ⟨w4.heap.size, 0, none⟩ 1 1 [.int .i64 7, .slice none 0 0, .int .i64 0, .int .i64 0] (by rfl) rfl HNEW.out HONE.out HNUM.out.1 HNUM.out.2.1 HNUM.out.2.2 ?_; intro v1 w5 hown hg; have HF := Aside0.mk (HFIN.out v1 w5 hown hg); clear hown hg))
        go_wp2
        go_ret2
        exact ⟨v1, by rw [HRS.out.2]; rfl, by rw [HRS.out.1]; exact HF.out.1, below_then (below_drew (below_alloc HP4.out _)) (below_drew (below_alloc HP4.out _)).size HF.out.2⟩
      · have hc0 : w4.cell? ⟨gb, 0, none⟩ = some (.slice (some ⟨gr, 0, none⟩) xs.length c) := (blk_cell HI4.out.blk 0).trans rfl
        obtain ⟨inner, hil, hic, hfin⟩ := row_ready (W := (w4.alloc (.cells #[.int .i64 7, .slice none 0 0, .int .i64 0, .int .i64 0] 38)).drew) (A := some ⟨gr, 0, none⟩) (c := c) (xs := xs) (below_drew (below_alloc HP4.out _)).size (Kd.R_drew (Kd.R_alloc (Kd.R_mono HI4.out.row (ok' := fun _ => True) (fun _ _ => trivial)) _))
        have HFIN := Aside0.mk hfin
        have HIL := Aside0.mk hil
        have HIC := Aside0.mk hic
        clear hfin hil hic
        have HNEW := Aside0.mk (show ∀ (j : Nat) (u : Value), ([.int .i64 7, .slice none 0 0, .int .i64 0, .int .i64 0] : List Value)[j]? = some u → (w4.alloc (.cells #[.int .i64 7, .slice none 0 0, .int .i64 0, .int .i64 0] 38)).drew.cell? ((⟨w4.heap.size, 0, none⟩ : Addr).add j) = some u from World.news_of_block (cs := #[.int .i64 7, .slice none 0 0, .int .i64 0, .int .i64 0]) (t := 38) (fr := (0, 0)) (heap_alloc_new w4 _))
        have HONE := Aside0.mk (show ∀ u ∈ ([.int .i64 7, .slice none 0 0, .int .i64 0, .int .i64 0] : List Value), u.oneCell' = true from by simp [Value.oneCell'])
        have HNUM := Aside0.mk (show xs.length < xs.length + 1 ∧ xs.length + 1 ≤ maxLen ∧ (xs.length + 1) * 48 ≤ 140737488355328 from by unfold maxLen; omega)
        go_wp2
        go_region_held3 (fun w' => w'.cell? ⟨gb, 0, none⟩ = some (.slice (some ⟨gr, 0, none⟩) xs.length c)) (first | go_keep | (rw [HF.out.2.cell (by simp; omega)]; assumption)) ((refine step_append_grows (w := (w4.alloc (.cells #[.int .i64 7, .slice none 0 0, .int .i64 0, .int .i64 0] 38)).drew) (by rfl) _ _ 27 (by rfl) 38 i0 _ 4 48 Try.underlying27 hi0 hz0 hz1 hz2 rfl (by omega) (some ⟨gr, 0, none⟩) xs.length xs.length inner (by rfl) (fun h => by cases h) HIL.out HIC.out ⟨w4.heap.size, 0, none⟩ 1 1 [.int .i64 7, .slice none 0 0, .int .i64 0, .int .i64 0] (by rfl) rfl HNEW.out HONE.out HNUM.out.1 HNUM.out.2.1 HNUM.out.2.2 ?_; intro v1 w5 hown hg; have HF := Aside0.mk (HFIN.out v1 w5 hown hg); clear hown hg))
        go_wp2
        go_ret2
        exact ⟨v1, by rw [HRS.out.2]; rfl, by rw [HRS.out.1]; exact HF.out.1, below_then (below_drew (below_alloc HP4.out _)) (below_drew (below_alloc HP4.out _)).size HF.out.2⟩
end Go.Proofs.Ytbgfobdlnlkfiaa.A
