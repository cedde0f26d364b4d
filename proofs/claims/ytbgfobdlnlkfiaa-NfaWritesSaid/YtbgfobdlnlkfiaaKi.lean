/- Several texts of this claim, laid together. -/
import Derived.Test.YtbgfobdlnlkfiaaKm
import Derived.Test.YtbgfobdlnlkfiaaKh
import Derived.Outline
/- nfa.Check's closure, slices.ContainsFunc and IndexFunc of states at it, and nfa.Check. -/
namespace Go.Proofs.Ytbgfobdlnlkfiaa.A
open Go.RowKit Go.Proofs.YtbgfobdlnlkfiaaW.PrintWords Go.Proofs.YtbgfobdlnlkfiaaW.PrintLast Go.Proofs.YtbgfobdlnlkfiaaW.PrintMore
attribute [local go_sem] max2_int min2_int max_two min_two max_three min_three max_four min_four
set_option linter.unusedVariables false
set_option linter.unusedSimpArgs false


theorem state_calls (s : S38) (A1 : Option Addr) (c1 : Nat) (n : Int) (w : World) (h1 : k54.C w A1 s.f1.length s.f1) (h2 : s.f1.length ≤ c1) (hm : s.f1.length ≤ 8796093021952) :
    Calls Try.prog 33 #[.agg #[.int .i64 s.f0, .slice A1 s.f1.length c1, .int .i64 s.f2, .int .i64 s.f3], .int .i64 n] w fun e w' => e = .returned (.bool (stateB s n)) ∧ Below w.heap.size w w' := by
  cases k1 : decide ((1 : Int) ≤ s.f0) with
  | false => exact state_1 s A1 c1 n w h1 h2 hm k1
  | true =>
    cases k2 : decide (s.f0 ≤ 7) with
    | false => exact state_2 s A1 c1 n w h1 h2 hm k1 k2
    | true =>
      cases hA : numB s.f2 (s.f0 != 7) n with
      | false => exact state_3 s A1 c1 n w h1 h2 hm k1 k2 hA
      | true =>
        cases hN : numB s.f3 (s.f0 == 2) n with
        | false => exact state_4 s A1 c1 n w h1 h2 hm k1 k2 hA hN
        | true =>
          cases k3 : (s.f0 == 1) with
          | true => exact state_5 s A1 c1 n w h1 h2 hm k1 k2 hA hN k3
          | false =>
            cases k4 : ((s.f1.length : Int) == 0) with
            | false => exact state_6 s A1 c1 n w h1 h2 hm k1 k2 hA hN k3 k4
            | true => exact state_7 s A1 c1 n w h1 h2 hm k1 k2 hA hN k3 k4
theorem rd38_mem (l : List S38) (j : Nat) (h : j < l.length) : rd_T38 l (j : Int) ∈ l := by
  have e : rd_T38 l (j : Int) = l[j] := by simp [rd_T38, h]
  rw [e]
  exact List.getElem_mem h
theorem any38_succ (p : S38 → Bool) (l : List S38) (j : Nat) (h : j < l.length) : (l.take (j + 1)).any p = ((l.take j).any p || p (rd_T38 l (j : Int))) := by
  have e : rd_T38 l (j : Int) = l[j] := by simp [rd_T38, h]
  rw [e, List.take_succ_eq_append_getElem h, List.any_append]
  simp
set_option maxHeartbeats 4000000 in
set_option maxRecDepth 100000 in
theorem check1_calls (s : S38) (A1 : Option Addr) (c1 : Nat) (g0 : Nat) (A : Option Addr) (m c : Nat) (w : World) (h1 : k54.C w A1 s.f1.length s.f1) (h2 : s.f1.length ≤ c1) (hm : s.f1.length ≤ 8796093021952) (hb : w.heap[g0]? = some (.cells #[.slice A m c] 27 (0, 0))) :
    Calls Try.prog 32 #[.agg #[.int .i64 s.f0, .slice A1 s.f1.length c1, .int .i64 s.f2, .int .i64 s.f3], .pointer (some ⟨g0, 0, none⟩)] w fun e w' => e = .returned (.bool (!stateB s m)) ∧ Below w.heap.size w w' := by
  have hu38 := Try.underlying38
  have hnot : ∀ (x : Bool) (w : World), (Op.unary .not (.bool x)).run Try.prog w = .ok (.bool (!x)) w := fun _ _ => rfl
  have HR := Tk.mk h1
  have HC := Tk.mk h2
  have HM := Tk.mk hm
  have HB := Tk.mk hb
  clear h1 h2 hm hb
  go_enter Try.func32, Try.ntmps32
  go_wp2_with (first | ((with_reducible refine gate_dst (N := 2) rfl ?_); refine box_event ?hg (N := 2) ?hd (cs := #[.int .i64 s.f0, .slice A1 s.f1.length c1, .int .i64 s.f2, .int .i64 s.f3]) (t := 38) ?hr ?_; (case hd => rfl); (case hg => rfl); (case hr => first | (go_simp; done) | (go_simp; rfl)); intro gs hgx_ w1 hbox hb; have HG_gs := Aside0.mk hgx_; clear hgx_; have HBX := Tk.mk hb; have hs0 : w1.cell? ⟨gs, 0, none⟩ = some (.int .i64 s.f0) := (blk_cell hbox 0).trans rfl; have hs1 : w1.cell? ⟨gs, 1, none⟩ = some (.slice A1 s.f1.length c1) := (blk_cell hbox 1).trans rfl; have hs2 : w1.cell? ⟨gs, 2, none⟩ = some (.int .i64 s.f2) := (blk_cell hbox 2).trans rfl; have hs3 : w1.cell? ⟨gs, 3, none⟩ = some (.int .i64 s.f3) := (blk_cell hbox 3).trans rfl; have hc0 : w1.cell? ⟨g0, 0, none⟩ = some (.slice A m c) := (blk_cell (blk_below HB.out hb) 0).trans rfl; clear hb hbox) | (go_at_call 33; refine (state_calls s A1 c1 m w1 (Kd.C_below HR.out HBX.out) HC.out HM.out).mono ?_; rintro e w2 ⟨rfl, hb2⟩; have HB2 := Tk.mk (below_then HBX.out HBX.out.size hb2); clear hb2))
  go_ret
  exact ⟨rfl, HB2.out⟩
def okL (l : List S38) : Prop := ∀ s ∈ l, s.f1.length ≤ 8796093021952
set_option maxHeartbeats 8000000 in
set_option maxRecDepth 100000 in
theorem index38_calls (g0 : Nat) (m : Nat) (A0 : Option Addr) (c0 : Nat) (A : Option Addr) (c : Nat) (l : List S38) (w : World) (hr : k38.C w A l.length l) (hc : l.length ≤ c) (hb : w.heap[g0]? = some (.cells #[.slice A0 m c0] 27 (0, 0))) (hp : okL l) (hm : l.length ≤ 9000000000000) :
    Calls Try.prog 56 #[.slice A l.length c, .func (.func 32) #[] #[.pointer (some ⟨g0, 0, none⟩)]] w fun e w' => ∃ r : Int, e = .returned (.int .i64 r) ∧ decide (0 ≤ r) = l.any (fun s => !stateB s m) ∧ Below w.heap.size w w' := by
  have hu38 := Try.underlying38
  have HR := Tk.mk hr
  have HC := Tk.mk hc
  have HBX := Tk.mk hb
  have HP := Tk.mk hp
  clear hr hc hb hp
  go_enter Try.func56, Try.ntmps56
  go_wp2
  go_loopg [8] l.length (fun kq v8 w' => ∃ (j : Nat), v8 = .int .i64 j ∧ Aside0 (j ≤ l.length ∧ kq = l.length - j) ∧ Aside0 ((l.take j).any (fun s => !stateB s m) = false) ∧ Aside0 (Below w.heap.size w w'))
  case atStart => exact ⟨0, rfl, ⟨by omega, by omega⟩, ⟨by simp⟩, ⟨Below.refl _ _⟩⟩
  case round =>
    obtain ⟨j, rfl, HJ, HF, HB⟩ := hrel
    by_cases hlt : j < l.length
    · have HJL := Tk.mk hlt
      have hlx : (j : Int) < (l.length : Int) := by omega
      obtain ⟨ad, A1_, c1_, e_, hx0_, hx1_, hx2_, hx3_, hl1_, hi1_⟩ := at_T38 HR.out (j : Int) (by omega) (by omega)
      cases e_
      simp only [Int.toNat_natCast] at hx0_ hx1_ hx2_ hx3_
      replace hx0_ := (HB.out.cell (World.block_lt_of_cell? w _ hx0_)).trans hx0_
      replace hx1_ := (HB.out.cell (World.block_lt_of_cell? w _ hx1_)).trans hx1_
      replace hx2_ := (HB.out.cell (World.block_lt_of_cell? w _ hx2_)).trans hx2_
      replace hx3_ := (HB.out.cell (World.block_lt_of_cell? w _ hx3_)).trans hx3_
      have HS := Tk.mk (any38_succ (fun s => !stateB s m) l j hlt)
      have HPJ := Tk.mk (HP.out _ (rd38_mem l j hlt))
      have HL1 := Tk.mk hl1_
      have HI1 := Tk.mk hi1_
      clear hlt hl1_ hi1_
      by_cases hpp : stateB (rd_T38 l (j : Int)) m = true
      · have HPP := Tk.mk hpp
        go_wp2_with (first | (go_at_call 32; refine (check1_calls (rd_T38 l (j : Int)) A1_ c1_ g0 A0 m c0 wr (Kd.C_below HI1.out HB.out) HL1.out HPJ.out (blk_below HBX.out HB.out)).mono ?_; rintro e w2 ⟨rfl, hb2⟩; rw [HPP.out]; have HB2 := Tk.mk (below_then HB.out HB.out.size hb2); clear hb2))
        go_roundg (l.length - (j + 1))
        case measure => have h1 := HJ.out; have h2 := HJL.out; omega
        case rel => exact ⟨j + 1, by go_num, ⟨HJL.out, rfl⟩, ⟨by rw [HS.out, HF.out, HPP.out]; rfl⟩, ⟨HB2.out⟩⟩
      · have hpf : stateB (rd_T38 l (j : Int)) m = false := by simpa using hpp
        have HPP := Tk.mk hpf
        clear hpp hpf
        go_wp2_with (first | (go_at_call 32; refine (check1_calls (rd_T38 l (j : Int)) A1_ c1_ g0 A0 m c0 wr (Kd.C_below HI1.out HB.out) HL1.out HPJ.out (blk_below HBX.out HB.out)).mono ?_; rintro e w2 ⟨rfl, hb2⟩; rw [HPP.out]; have HB2 := Tk.mk (below_then HB.out HB.out.size hb2); clear hb2))
        go_ret
        refine ⟨_, rfl, ?_, HB2.out⟩
        have h1 := HS.out
        simp only [HPP.out, Bool.not_false, Bool.or_true] at h1
        have h2 : l.any (fun s => !stateB s m) = true := by
          rw [List.any_eq_true] at h1 ⊢
          obtain ⟨y, hy, hpy⟩ := h1
          exact ⟨y, List.mem_of_mem_take hy, hpy⟩
        rw [h2]
        exact decide_eq_true (by omega)
    · have hje : j = l.length := by have := HJ.out; omega
      subst hje
      have HL := Tk.mk (show l.any (fun s => !stateB s m) = false from by have h := HF.out; rw [List.take_length] at h; exact h)
      go_wp2
      go_ret
      exact ⟨_, rfl, by rw [HL.out]; rfl, HB.out⟩
def checkE (l : List S38) : Int := if l.length = 0 ∨ l.any (fun s => !stateB s l.length) = true then 101 else 0
set_option maxHeartbeats 8000000 in
set_option maxRecDepth 100000 in
theorem contains38_calls (g0 : Nat) (m : Nat) (A0 : Option Addr) (c0 : Nat) (A : Option Addr) (c : Nat) (l : List S38) (w : World) (hr : k38.C w A l.length l) (hc : l.length ≤ c) (hb : w.heap[g0]? = some (.cells #[.slice A0 m c0] 27 (0, 0))) (hp : okL l) (hm : l.length ≤ 9000000000000) :
    Calls Try.prog 31 #[.slice A l.length c, .func (.func 32) #[] #[.pointer (some ⟨g0, 0, none⟩)]] w fun e w' => e = .returned (.bool (l.any (fun s => !stateB s m))) ∧ Below w.heap.size w w' := by
  have HI := Tk.mk (index38_calls g0 m A0 c0 A c l w hr hc hb hp hm)
  clear hr hc hb hp
  go_enter Try.func31, Try.ntmps31
  go_wp2_with (first | (go_at_call 56; refine (HI.out).mono ?_; rintro e w2 ⟨r, rfl, hd, hb2⟩; have HB2 := Tk.mk hb2; have HD := Tk.mk hd; clear hb2 hd))
  go_ret
  exact ⟨by rw [← HD.out]; rfl, HB2.out⟩
set_option maxHeartbeats 8000000 in
set_option maxRecDepth 100000 in
theorem nfacheck_calls (A : Option Addr) (c : Nat) (l : List S38) (w : World) (hr : k38.C w A l.length l) (hc : l.length ≤ c) (hp : okL l) (hm : l.length ≤ 9000000000000) :
    Calls Try.prog 14 #[.slice A l.length c] w fun e w' => e = .returned (.int .i64 (checkE l)) ∧ Below w.heap.size w w' := by
  have hmf : ∀ (fn : Fn) (first cap : Array Value) (w : World), (Instr.makeFunc fn first cap).run Try.prog w = .ok (.func fn first cap) w := fun _ _ _ _ => rfl
  have HR := Tk.mk hr
  have HC := Tk.mk hc
  have HP := Tk.mk hp
  have HM := Tk.mk hm
  clear hr hc hp
  by_cases h0 : l.length = 0
  · have HE := Tk.mk (show checkE l = 101 from if_pos (.inl h0))
    have h0' : ((l.length : Int) == 0) = true := by rw [h0]; rfl
    clear h0
    go_enter Try.func14, Try.ntmps14
    go_wp2_with (first | ((with_reducible refine gate_dst (N := 1) rfl ?_); refine box_event ?hg (N := 1) ?hd (cs := #[.slice A l.length c]) (t := 27) ?hr ?_; (case hd => rfl); (case hg => rfl); (case hr => first | (go_simp; done) | (go_simp; rfl)); intro gl hgx_ w1 hbox hb; have HG_gl := Aside0.mk hgx_; clear hgx_; have HBX := Tk.mk hb; have hl0 : w1.cell? ⟨gl, 0, none⟩ = some (.slice A l.length c) := (blk_cell hbox 0).trans rfl; clear hb hbox))
    go_ret
    exact ⟨by rw [HE.out]; rfl, HBX.out⟩
  · have h0' : ((l.length : Int) == 0) = false := by rw [beq_eq_false_iff_ne]; omega
    obtain ⟨b, hb⟩ : ∃ b, b = l.any (fun s => !stateB s l.length) := ⟨_, rfl⟩
    have HBB := Tk.mk hb
    have HE := Tk.mk (show checkE l = if b then 101 else 0 from by unfold checkE; rw [← hb]; simp [h0])
    clear h0 hb
    cases b with
    | true =>
      go_enter Try.func14, Try.ntmps14
      go_wp2_with (first | ((with_reducible refine gate_dst (N := 1) rfl ?_); refine box_event ?hg (N := 1) ?hd (cs := #[.slice A l.length c]) (t := 27) ?hr ?_; (case hd => rfl); (case hg => rfl); (case hr => first | (go_simp; done) | (go_simp; rfl)); intro gl hgx_ w1 hbox hb; have HG_gl := Aside0.mk hgx_; clear hgx_; have HBX := Tk.mk hb; have HGL := Tk.mk hbox; have hl0 : w1.cell? ⟨gl, 0, none⟩ = some (.slice A l.length c) := (blk_cell hbox 0).trans rfl; clear hb hbox) | (go_at_call 31; refine (contains38_calls gl l.length A c A c l w1 (Kd.C_below HR.out HBX.out) HC.out HGL.out HP.out HM.out).mono ?_; rintro e w2 ⟨rfl, hb2⟩; rw [← HBB.out]; have HB2 := Tk.mk (below_then HBX.out HBX.out.size hb2); clear hb2))
      go_ret
      exact ⟨by rw [HE.out]; rfl, HB2.out⟩
    | false =>
      go_enter Try.func14, Try.ntmps14
      go_wp2_with (first | ((with_reducible refine gate_dst (N := 1) rfl ?_); refine box_event ?hg (N := 1) ?hd (cs := #[.slice A l.length c]) (t := 27) ?hr ?_; (case hd => rfl); (case hg => rfl); (case hr => first | (go_simp; done) | (go_simp; rfl)); intro gl hgx_ w1 hbox hb; have HG_gl := Aside0.mk hgx_; clear hgx_; have HBX := Tk.mk hb; have HGL := Tk.mk hbox; have hl0 : w1.cell? ⟨gl, 0, none⟩ = some (.slice A l.length c) := (blk_cell hbox 0).trans rfl; clear hb hbox) | (go_at_call 31; refine (contains38_calls gl l.length A c A c l w1 (Kd.C_below HR.out HBX.out) HC.out HGL.out HP.out HM.out).mono ?_; rintro e w2 ⟨rfl, hb2⟩; rw [← HBB.out]; have HB2 := Tk.mk (below_then HBX.out HBX.out.size hb2); clear hb2))
      go_ret
      exact ⟨by rw [HE.out]; rfl, HB2.out⟩
end Go.Proofs.Ytbgfobdlnlkfiaa.A
/- The trees of caliperlaw10's heads, and what Compile, Size and Check answer of them. -/
namespace Go.Proofs.Ytbgfobdlnlkfiaa.A
open Go.RowKit Go.Proofs.YtbgfobdlnlkfiaaW.PrintWords Go.Proofs.YtbgfobdlnlkfiaaW.PrintLast Go.Proofs.YtbgfobdlnlkfiaaW.PrintMore
attribute [local go_sem] max2_int min2_int max_two min_two max_three min_three max_four min_four
set_option linter.unusedVariables false
set_option linter.unusedSimpArgs false

def letT (c : Int) : S26 := ⟨2, [⟨c, c⟩], 0, 0, false, []⟩
def altT : S26 := ⟨4, [], 0, 0, false, [letT 97, letT 98]⟩
def repT : S26 := ⟨5, [], 1000, 1000, false, [letT 97]⟩
def repT2 : S26 := ⟨5, [], 1000, 1000, false, [repT]⟩
def altL : List S38 := [⟨2, [], 1, 3⟩, ⟨1, [⟨97, 97⟩], 2, 0⟩, ⟨2, [], 4, 4⟩, ⟨1, [⟨98, 98⟩], 4, 0⟩, ⟨7, [], 0, 0⟩]
theorem right_let (n : Nat) (c : Int) (h0 : 0 ≤ c) (h1 : c ≤ 1000) : rightB (n + 1) (letT c) = true := by
  simp [rightB, nodeB, letT, normB, normFrom]; omega
theorem right_alt : rightB 1000 altT = true := by
  show rightB (998 + 1 + 1) altT = true
  rw [rightB, altT]
  simp [nodeB, right_let 998 97 (by omega) (by omega), right_let 998 98 (by omega) (by omega)]
theorem right_rep2 : rightB 1000 repT2 = true := by
  have h : rightB (998 + 1) repT = true := by
    rw [rightB, repT]
    simp [nodeB, right_let 997 97 (by omega) (by omega)]
  show rightB (998 + 1 + 1) repT2 = true
  rw [rightB, repT2]
  simp [nodeB, h]
theorem len_let (n : Nat) (c : Int) : lenF (n + 1) (letT c) = 1 := by simp [lenF, letT]
theorem len_alt : lenF 1000 altT = 4 := by
  show lenF (998 + 1 + 1) altT = 4
  rw [lenF, altT]
  simp [len_let 998]
theorem len_rep2 : (100 : Int) ≤ lenF 1000 repT2 := by
  have h : lenF (998 + 1) repT = 1000 := by
    rw [lenF, repT]
    simp [len_let 997, rd_T26]
  show (100 : Int) ≤ lenF (998 + 1 + 1) repT2
  rw [lenF, repT2]
  simp [h, rd_T26]
theorem size_alt (m : Int) (h : 4 ≤ m) : sizeR altT m = 5 := by
  unfold sizeR
  rw [if_pos right_alt, size_len (by omega) 1000 altT right_alt, len_alt]
  omega
theorem size_rep2 : sizeR repT2 100 = 101 := by
  unfold sizeR
  rw [if_pos right_rep2, size_len (by omega) 1000 repT2 right_rep2]
  have := len_rep2
  omega
theorem build_alt_L : buildF 1000 altT [] = [⟨2, [], 1, 3⟩, ⟨1, [⟨97, 97⟩], 2, 0⟩, ⟨2, [], 4, 4⟩, ⟨1, [⟨98, 98⟩], 4, 0⟩] := by
  show buildF (998 + 1 + 1) altT [] = _
  rfl
theorem comp_alt5 : compL altT 5 = altL ∧ compE altT 5 = 0 := by
  unfold compL compE
  rw [size_alt 65536 (by omega), if_pos right_alt, if_pos right_alt, if_pos (by omega), if_pos (by omega), build_alt_L]
  exact ⟨rfl, rfl⟩
theorem comp_alt4 : compL altT 4 = [] ∧ compE altT 4 = 100 := by
  unfold compL compE
  rw [size_alt 65536 (by omega), if_pos right_alt, if_pos right_alt, if_neg (by omega), if_neg (by omega)]
  exact ⟨rfl, rfl⟩
theorem check_altL : checkE altL = 0 := by decide
theorem bnd_let (n : Nat) (c : Int) : bnd n (letT c) := by
  cases n with
  | zero => trivial
  | succ n => exact ⟨by simp [letT], by simp [letT], fun y hy => by simp [letT] at hy⟩
theorem bnd_alt : bnd 1000 altT := by
  show bnd (999 + 1) altT
  refine ⟨by simp [altT], by simp [altT], fun y hy => ?_⟩
  simp only [altT, List.mem_cons, List.not_mem_nil, or_false] at hy
  rcases hy with rfl | rfl <;> exact bnd_let _ _
theorem bnd_rep2 : bnd 1000 repT2 := by
  show bnd (998 + 1 + 1) repT2
  refine ⟨by simp [repT2], by simp [repT2], fun y hy => ?_⟩
  simp only [repT2, List.mem_cons, List.not_mem_nil, or_false] at hy
  subst hy
  refine ⟨by simp [repT], by simp [repT], fun y hy => ?_⟩
  simp only [repT, List.mem_cons, List.not_mem_nil, or_false] at hy
  subst hy
  exact bnd_let _ _
theorem ok_altL : okL altL := by
  intro s hs
  simp only [altL, List.mem_cons, List.not_mem_nil, or_false] at hs
  rcases hs with rfl | rfl | rfl | rfl | rfl <;> simp
end Go.Proofs.Ytbgfobdlnlkfiaa.A
/- caliperlaw10.heads: it answers true. -/
namespace Go.Proofs.Ytbgfobdlnlkfiaa.A
open Go.RowKit Go.Proofs.YtbgfobdlnlkfiaaW.PrintWords Go.Proofs.YtbgfobdlnlkfiaaW.PrintLast Go.Proofs.YtbgfobdlnlkfiaaW.PrintMore
attribute [local go_sem] max2_int min2_int max_two min_two max_three min_three max_four min_four
set_option linter.unusedVariables false
set_option linter.unusedSimpArgs false


section
variable {P : Program} {ops : Array Oper} {o : Oper} {rest : List Oper} {a : Act} {Q : Exit → Act → World → Prop}
/-- A slice written out: its elements read. -/
theorem lit_event {α : Type} (d : Kd α) {W : World} (e : Nat) (hgd : o.guard = none) {N : Tmp} (_hd : o.dst = some N) {xs : List α} {inner : List Value}
    (hrun : (execOp a.eval o).run P W = .ok (.value (.slice (some ⟨W.heap.size, 0, none⟩) xs.length xs.length)) (W.alloc (.cells inner.toArray e)))
    (hrep : Reps (d.K W) d.sz xs inner) (hm : xs.length ≤ 9223372036854775807)
    (h : ∀ g w1, d.C w1 (some ⟨g, 0, none⟩) xs.length xs → Below W.heap.size W w1 → wpList P ops Q rest (a.put o.dst (.slice (some ⟨g, 0, none⟩) xs.length xs.length)) w1) : wpList P ops Q (o :: rest) a W := by
  have hb : Below W.heap.size W (W.alloc (.cells inner.toArray e)) := below_alloc (Below.refl _ _) _
  refine Kd.event_run hgd hrun (h W.heap.size _ ⟨rfl, hm, fun _ => ⟨_, rfl, fun j p hj => ⟨(inner.drop (j * d.sz)).take d.sz, ?_, d.K_below hb (hrep.2 j p hj), fun i u hu => ?_⟩⟩⟩ hb)
  · exact d.K_len (hrep.2 j p hj)
  · have h0 : (W.alloc (.cells inner.toArray e)).heap[W.heap.size]? = some (.cells inner.toArray e (0, 0)) := heap_alloc_new W _
    have hi : i < d.sz := by
      have := (List.getElem?_eq_some_iff.1 hu).1
      rw [List.length_take] at this
      omega
    have h1 : inner[j * d.sz + i]? = some u := by
      rw [List.getElem?_take_of_lt hi, List.getElem?_drop] at hu
      exact hu
    have h2 := World.news_of_block h0 (j * d.sz + i) u (by simpa using h1)
    exact h2
end
set_option maxRecDepth 100000 in
theorem letter_any (c : Int) (w : World) : Calls Try.prog 30 #[.int .i64 c] w fun e w' => ∃ A1 k1 A5 k5, e = .returned (.agg #[.int .i64 2, .slice A1 1 k1, .int .i64 0, .int .i64 0, .bool false, .slice A5 0 k5]) ∧ k26.K w' (letT c) [.int .i64 2, .slice A1 1 k1, .int .i64 0, .int .i64 0, .bool false, .slice A5 0 k5] ∧ Below w.heap.size w w' := by
  refine (caliperlaw10_letter.calls c 2 [⟨c, c⟩] 0 0 false [] w rfl).mono ?_
  rintro e w' ⟨v1, v5, rfl, h1, h5, hb⟩
  obtain ⟨A1, k1, rfl, hl1, hc1⟩ := Kd.R_reads h1
  obtain ⟨A5, k5, rfl, hl5, hc5⟩ := Kd.R_reads h5
  exact ⟨A1, k1, A5, k5, rfl, k26_mk w' (letT c) hl1 hc1 hl5 hc5, hb⟩
set_option maxRecDepth 100000 in
theorem compile_alt5 (A5 : Option Addr) (c5 : Nat) (w : World) (h3 : k26.C w A5 2 [letT 97, letT 98]) (h4 : 2 ≤ c5) :
    Calls Try.prog 10 #[.agg #[.int .i64 4, .slice none 0 0, .int .i64 0, .int .i64 0, .bool false, .slice A5 2 c5], .int .i64 5] w fun e w' => ∃ g c, e = .returned (.tuple #[.slice (some ⟨g, 0, none⟩) 5 c, .int .i64 0]) ∧ 5 ≤ c ∧ k38.C w' (some ⟨g, 0, none⟩) 5 altL ∧ (w'.cell? ⟨g, 0, none⟩ = some (.int .i64 2) ∧ w'.cell? ⟨g, 3, none⟩ = some (.int .i64 3) ∧ w'.cell? ⟨g, 10, none⟩ = some (.int .i64 4)) ∧ Below w.heap.size w w' := by
  refine (compile_calls altT none 0 A5 c5 w (Kd.C_nil _ _) (Nat.le_refl _) h3 h4 bnd_alt 5).mono ?_
  rintro e w' ⟨v, rfl, hR, hb⟩
  rw [comp_alt5.1] at hR
  rw [comp_alt5.2]
  rcases R_cases hR with ⟨_, h0⟩ | ⟨g, c, rfl, hl⟩
  · cases h0
  · have hc := (Kd.R_reads' hR).2.2
    obtain ⟨ad, A1, c1, e1, q0, _, _, q3, _⟩ := at_T38 hc 0 (by omega) (by decide)
    obtain ⟨ad2, A2, c2, e2, _, _, p2, _⟩ := at_T38 hc 2 (by omega) (by decide)
    cases e1
    cases e2
    exact ⟨g, c, rfl, hl, hc, ⟨q0, q3, p2⟩, hb⟩
set_option maxRecDepth 100000 in
theorem compile_alt4 (A5 : Option Addr) (c5 : Nat) (w : World) (h3 : k26.C w A5 2 [letT 97, letT 98]) (h4 : 2 ≤ c5) :
    Calls Try.prog 10 #[.agg #[.int .i64 4, .slice none 0 0, .int .i64 0, .int .i64 0, .bool false, .slice A5 2 c5], .int .i64 4] w fun e w' => ∃ v, e = .returned (.tuple #[v, .int .i64 100]) ∧ Below w.heap.size w w' := by
  refine (compile_calls altT none 0 A5 c5 w (Kd.C_nil _ _) (Nat.le_refl _) h3 h4 bnd_alt 4).mono ?_
  rintro e w' ⟨v, rfl, hR, hb⟩
  rw [comp_alt4.2]
  exact ⟨v, rfl, hb⟩
set_option maxRecDepth 100000 in
theorem size_alt100 (A5 : Option Addr) (c5 : Nat) (w : World) (h3 : k26.C w A5 2 [letT 97, letT 98]) (h4 : 2 ≤ c5) :
    Calls Try.prog 11 #[.agg #[.int .i64 4, .slice none 0 0, .int .i64 0, .int .i64 0, .bool false, .slice A5 2 c5], .int .i64 100] w fun e w' => e = .returned (.tuple #[.int .i64 5, .int .i64 0]) ∧ Below w.heap.size w w' := by
  refine (size_calls altT none 0 A5 c5 w (Kd.C_nil _ _) (Nat.le_refl _) h3 h4 bnd_alt 100 (by omega) (by omega)).mono ?_
  rintro e w' ⟨rfl, hb⟩
  rw [size_alt 100 (by omega), sizeE, if_pos right_alt]
  exact ⟨rfl, hb⟩
set_option maxRecDepth 100000 in
theorem size_rep100 (A5 : Option Addr) (c5 : Nat) (w : World) (h3 : k26.C w A5 1 [repT]) (h4 : 1 ≤ c5) :
    Calls Try.prog 11 #[.agg #[.int .i64 5, .slice none 0 0, .int .i64 1000, .int .i64 1000, .bool false, .slice A5 1 c5], .int .i64 100] w fun e w' => e = .returned (.tuple #[.int .i64 101, .int .i64 0]) ∧ Below w.heap.size w w' := by
  refine (size_calls repT2 none 0 A5 c5 w (Kd.C_nil _ _) (Nat.le_refl _) h3 h4 bnd_rep2 100 (by omega) (by omega)).mono ?_
  rintro e w' ⟨rfl, hb⟩
  rw [size_rep2, sizeE, if_pos right_rep2]
  exact ⟨rfl, hb⟩
theorem check_nil (w : World) : Calls Try.prog 14 #[.slice none 0 0] w fun e w' => e = .returned (.int .i64 101) ∧ Below w.heap.size w w' :=
  nfacheck_calls none 0 [] w (Kd.C_nil _ _) (Nat.le_refl _) (fun s hs => by simp at hs) (by simp)
theorem check_alt (A : Option Addr) (c : Nat) (w : World) (h : k38.C w A 5 altL) (hc : 5 ≤ c) : Calls Try.prog 14 #[.slice A 5 c] w fun e w' => e = .returned (.int .i64 0) ∧ Below w.heap.size w w' := by
  refine (nfacheck_calls A c altL w h hc ok_altL (by decide)).mono ?_
  rintro e w' ⟨rfl, hb⟩
  rw [check_altL]
  exact ⟨rfl, hb⟩
set_option maxHeartbeats 8000000 in
set_option maxRecDepth 100000 in
theorem heads10_calls (w : World) : Calls Try.prog 13 #[] w fun e w' => e = .returned (.bool true) ∧ Below w.heap.size w w' := by
  have hu26 := Try.underlying26
  have hu38 := Try.underlying38
  go_enter Try.func13, Try.ntmps13
  go_wp2_with fail
  refine (letter_any 97 _).mono ?_
  rintro e w1 ⟨A1, k1, A5, k5, rfl, hKa, hb1⟩
  have HKA := Tk.mk hKa
  have HB1 := Tk.mk hb1
  clear hKa hb1
  go_wp2_with fail
  refine (letter_any 98 _).mono ?_
  rintro e w2 ⟨B1, j1, B5, j5, rfl, hKb, hb2⟩
  have HKB := Tk.mk hKb
  have HKA2 := Tk.mk (k26.K_below hb2 HKA.out)
  have HB2 := Tk.mk (below_then HB1.out HB1.out.size hb2)
  clear hKb hb2
  go_wp2_with (first | ((with_reducible refine gate_dst (N := 13) rfl ?_); refine lit_event k26 26 ?hg (N := 13) ?hd (xs := [letT 97, letT 98]) (inner := [.int .i64 2, .slice A1 1 k1, .int .i64 0, .int .i64 0, .bool false, .slice A5 0 k5, .int .i64 2, .slice B1 1 j1, .int .i64 0, .int .i64 0, .bool false, .slice B5 0 j5]) ?hr ?hp (by simp) ?_; (case hd => rfl); (case hg => rfl); (case hr => first | (go_simp; done) | (go_simp; rfl)); (case hp => exact Reps.snoc (Reps.snoc (Reps.none _ _) HKA2.out rfl) HKB.out rfl); intro g3 w3 hC3 hb3; have HC3 := Tk.mk hC3; have HB3 := Tk.mk (below_then HB2.out HB2.out.size hb3); clear hC3 hb3) | ((with_reducible refine gate_dst (N := 1) rfl ?_); refine box_event ?hg (N := 1) ?hd (cs := #[.int .i64 0, .slice none 0 0, .int .i64 0, .int .i64 0, .bool false, .slice none 0 0]) (t := 26) ?hr ?_; (case hd => rfl); (case hg => rfl); (case hr => first | (go_simp; done) | (go_simp; rfl)); intro gx hgx_ w4 hbox hb; have HG_gx := Aside0.mk hgx_; clear hgx_; have HBY := Tk.mk hb; have HYB := Tk.mk hbox; have GEY : Tk (w3.heap.size ≤ gx) := ⟨by have := HG_gx.out; omega⟩; have hyf0 := blk_frozen hbox 0; have hyf1 := blk_frozen hbox 1; have hyf2 := blk_frozen hbox 2; have hyf3 := blk_frozen hbox 3; have hyf4 := blk_frozen hbox 4; have hyf5 := blk_frozen hbox 5; have hy0 : w4.cell? ⟨gx, 0, none⟩ = some (.int .i64 0) := (blk_cell hbox 0).trans rfl; have hy1 : w4.cell? ⟨gx, 1, none⟩ = some (.slice none 0 0) := (blk_cell hbox 1).trans rfl; have hy2 : w4.cell? ⟨gx, 2, none⟩ = some (.int .i64 0) := (blk_cell hbox 2).trans rfl; have hy3 : w4.cell? ⟨gx, 3, none⟩ = some (.int .i64 0) := (blk_cell hbox 3).trans rfl; have hy4 : w4.cell? ⟨gx, 4, none⟩ = some (.bool false) := (blk_cell hbox 4).trans rfl; have hy5 : w4.cell? ⟨gx, 5, none⟩ = some (.slice none 0 0) := (blk_cell hbox 5).trans rfl; clear hb hbox) | ((with_reducible refine gate_dst (N := 16) rfl ?_); refine name_at (N := 16) ?gn (fun W => W.heap[gx]? = some (.cells #[.int .i64 4, .slice none 0 0, .int .i64 0, .int .i64 0, .bool false, .slice (some ⟨g3, 0, none⟩) 2 2] 26 (0, 0)) ∧ Below w3.heap.size w3 W) ?gf ?_; (case gn => rfl); (case gf => refine ⟨(blk_set (blk_set (blk_set (blk_set (blk_set (blk_set HYB.out 0 (.int .i64 4)) 1 (.slice none 0 0)) 2 (.int .i64 0)) 3 (.int .i64 0)) 4 (.bool false)) 5 (.slice (some ⟨g3, 0, none⟩) 2 2)).trans rfl, ?_⟩; exact (by repeat (first | (with_reducible exact HBY.out) | (with_reducible refine below_set ?_ GEY.out)))); clear HYB hy0 hy1 hy2 hy3 hy4 hy5 hyf0 hyf1 hyf2 hyf3 hyf4 hyf5; rintro w5 ⟨hbk, hbl⟩; have BKX := Tk.mk hbk; have HBL := Tk.mk hbl; clear hbk hbl HBY GEY; have hx0 : w5.cell? ⟨gx, 0, none⟩ = some (.int .i64 4) := (blk_cell BKX.out 0).trans rfl; have hx1 : w5.cell? ⟨gx, 1, none⟩ = some (.slice none 0 0) := (blk_cell BKX.out 1).trans rfl; have hx2 : w5.cell? ⟨gx, 2, none⟩ = some (.int .i64 0) := (blk_cell BKX.out 2).trans rfl; have hx3 : w5.cell? ⟨gx, 3, none⟩ = some (.int .i64 0) := (blk_cell BKX.out 3).trans rfl; have hx4 : w5.cell? ⟨gx, 4, none⟩ = some (.bool false) := (blk_cell BKX.out 4).trans rfl; have hx5 : w5.cell? ⟨gx, 5, none⟩ = some (.slice (some ⟨g3, 0, none⟩) 2 2) := (blk_cell BKX.out 5).trans rfl))
  have HB5 := Tk.mk (below_then HB3.out HB3.out.size HBL.out)
  have HC5 := Tk.mk (Kd.C_below HC3.out HBL.out)
  clear HKA HKB HKA2 HB1 HB2 HBL
  refine (compile_alt5 _ _ _ HC5.out (by omega)).mono ?_
  rintro e w6 ⟨g6, c6, rfl, hc6, hC6, ⟨q0, q3, q10⟩, hb6⟩
  have BKX := Tk.mk (blk_below BKX.out hb6)
  have HB6 := Tk.mk (below_then HB5.out HB5.out.size hb6)
  have HC6 := Tk.mk (Kd.C_below HC5.out hb6)
  have HL6 := Tk.mk hC6
  have HCC := Tk.mk hc6
  have HQ := Tk.mk (And.intro q0 (And.intro q3 q10))
  clear hc6 hC6 hb6 q0 q3 q10 hx0 hx1 hx2 hx3 hx4 hx5
  have hx0 : w6.cell? ⟨gx, 0, none⟩ = some (.int .i64 4) := (blk_cell BKX.out 0).trans rfl; have hx1 : w6.cell? ⟨gx, 1, none⟩ = some (.slice none 0 0) := (blk_cell BKX.out 1).trans rfl; have hx2 : w6.cell? ⟨gx, 2, none⟩ = some (.int .i64 0) := (blk_cell BKX.out 2).trans rfl; have hx3 : w6.cell? ⟨gx, 3, none⟩ = some (.int .i64 0) := (blk_cell BKX.out 3).trans rfl; have hx4 : w6.cell? ⟨gx, 4, none⟩ = some (.bool false) := (blk_cell BKX.out 4).trans rfl; have hx5 : w6.cell? ⟨gx, 5, none⟩ = some (.slice (some ⟨g3, 0, none⟩) 2 2) := (blk_cell BKX.out 5).trans rfl
  go_wp2_with fail
  refine (compile_alt4 _ _ _ HC6.out (by omega)).mono ?_
  rintro e w7 ⟨v7, rfl, hb7⟩
  have BKX := Tk.mk (blk_below BKX.out hb7)
  have HB7 := Tk.mk (below_then HB6.out HB6.out.size hb7)
  have HC7 := Tk.mk (Kd.C_below HC6.out hb7)
  have HX7 := Tk.mk hb7
  clear hb7 hx0 hx1 hx2 hx3 hx4 hx5
  have hx0 : w7.cell? ⟨gx, 0, none⟩ = some (.int .i64 4) := (blk_cell BKX.out 0).trans rfl; have hx1 : w7.cell? ⟨gx, 1, none⟩ = some (.slice none 0 0) := (blk_cell BKX.out 1).trans rfl; have hx2 : w7.cell? ⟨gx, 2, none⟩ = some (.int .i64 0) := (blk_cell BKX.out 2).trans rfl; have hx3 : w7.cell? ⟨gx, 3, none⟩ = some (.int .i64 0) := (blk_cell BKX.out 3).trans rfl; have hx4 : w7.cell? ⟨gx, 4, none⟩ = some (.bool false) := (blk_cell BKX.out 4).trans rfl; have hx5 : w7.cell? ⟨gx, 5, none⟩ = some (.slice (some ⟨g3, 0, none⟩) 2 2) := (blk_cell BKX.out 5).trans rfl
  go_wp2_with fail
  refine (size_alt100 _ _ _ HC7.out (by omega)).mono ?_
  rintro e w8 ⟨rfl, hb8⟩
  have HB8 := Tk.mk (below_then HB7.out HB7.out.size hb8)
  have HX8 := Tk.mk (below_then HX7.out HX7.out.size hb8)
  clear hb8 hx0 hx1 hx2 hx3 hx4 hx5 BKX HC7 HC6 HC5
  go_wp2_with fail
  refine (letter_any 97 _).mono ?_
  rintro e w9 ⟨D1, m1, D5, m5, rfl, hKd, hb9⟩
  have HKD := Tk.mk hKd
  have HX9 := Tk.mk (below_then HX8.out HX8.out.size hb9)
  have HB9 := Tk.mk (below_then HB8.out HB8.out.size hb9)
  clear hKd hb9
  go_wp2_with (first | ((with_reducible refine gate_dst (N := 31) rfl ?_); refine lit_event k26 26 ?hg (N := 31) ?hd (xs := [letT 97]) (inner := [.int .i64 2, .slice D1 1 m1, .int .i64 0, .int .i64 0, .bool false, .slice D5 0 m5]) ?hr ?hp (by simp) ?_; (case hd => rfl); (case hg => rfl); (case hr => first | (go_simp; done) | (go_simp; rfl)); (case hp => exact Reps.snoc (Reps.none _ _) HKD.out rfl); intro g10 w10 hC10 hb10; have HC10 := Tk.mk hC10; have HX10 := Tk.mk (below_then HX9.out HX9.out.size hb10); have HB10 := Tk.mk (below_then HB9.out HB9.out.size hb10); clear hC10 hb10) | ((with_reducible refine gate_dst (N := 8) rfl ?_); refine box_event ?hg (N := 8) ?hd (cs := #[.int .i64 0, .slice none 0 0, .int .i64 0, .int .i64 0, .bool false, .slice none 0 0]) (t := 26) ?hr ?_; (case hd => rfl); (case hg => rfl); (case hr => first | (go_simp; done) | (go_simp; rfl)); intro gy hgx_ w11 hbox hb; have HG_gy := Aside0.mk hgx_; clear hgx_; have HBY := Tk.mk hb; have HYB := Tk.mk hbox; have GEY : Tk (w10.heap.size ≤ gy) := ⟨by have := HG_gy.out; omega⟩; have hyf0 := blk_frozen hbox 0; have hyf1 := blk_frozen hbox 1; have hyf2 := blk_frozen hbox 2; have hyf3 := blk_frozen hbox 3; have hyf4 := blk_frozen hbox 4; have hyf5 := blk_frozen hbox 5; have hy0 : w11.cell? ⟨gy, 0, none⟩ = some (.int .i64 0) := (blk_cell hbox 0).trans rfl; have hy1 : w11.cell? ⟨gy, 1, none⟩ = some (.slice none 0 0) := (blk_cell hbox 1).trans rfl; have hy2 : w11.cell? ⟨gy, 2, none⟩ = some (.int .i64 0) := (blk_cell hbox 2).trans rfl; have hy3 : w11.cell? ⟨gy, 3, none⟩ = some (.int .i64 0) := (blk_cell hbox 3).trans rfl; have hy4 : w11.cell? ⟨gy, 4, none⟩ = some (.bool false) := (blk_cell hbox 4).trans rfl; have hy5 : w11.cell? ⟨gy, 5, none⟩ = some (.slice none 0 0) := (blk_cell hbox 5).trans rfl; clear hb hbox) | ((with_reducible refine gate_dst (N := 34) rfl ?_); refine name_at (N := 34) ?gn (fun W => W.heap[gy]? = some (.cells #[.int .i64 5, .slice none 0 0, .int .i64 1000, .int .i64 1000, .bool false, .slice (some ⟨g10, 0, none⟩) 1 1] 26 (0, 0)) ∧ Below w10.heap.size w10 W) ?gf ?_; (case gn => rfl); (case gf => refine ⟨(blk_set (blk_set (blk_set (blk_set (blk_set (blk_set HYB.out 0 (.int .i64 5)) 1 (.slice none 0 0)) 2 (.int .i64 1000)) 3 (.int .i64 1000)) 4 (.bool false)) 5 (.slice (some ⟨g10, 0, none⟩) 1 1)).trans rfl, ?_⟩; exact (by repeat (first | (with_reducible exact HBY.out) | (with_reducible refine below_set ?_ GEY.out)))); clear HYB hy0 hy1 hy2 hy3 hy4 hy5 hyf0 hyf1 hyf2 hyf3 hyf4 hyf5; rintro w12 ⟨hbk, hbl⟩; have BKX := Tk.mk hbk; have HBL := Tk.mk hbl; clear hbk hbl HBY GEY; have hz0 : w12.cell? ⟨gy, 0, none⟩ = some (.int .i64 5) := (blk_cell BKX.out 0).trans rfl; have hz1 : w12.cell? ⟨gy, 1, none⟩ = some (.slice none 0 0) := (blk_cell BKX.out 1).trans rfl; have hz2 : w12.cell? ⟨gy, 2, none⟩ = some (.int .i64 1000) := (blk_cell BKX.out 2).trans rfl; have hz3 : w12.cell? ⟨gy, 3, none⟩ = some (.int .i64 1000) := (blk_cell BKX.out 3).trans rfl; have hz4 : w12.cell? ⟨gy, 4, none⟩ = some (.bool false) := (blk_cell BKX.out 4).trans rfl; have hz5 : w12.cell? ⟨gy, 5, none⟩ = some (.slice (some ⟨g10, 0, none⟩) 1 1) := (blk_cell BKX.out 5).trans rfl) | ((with_reducible refine gate_dst (N := 35) rfl ?_); have HC12 := Tk.mk (Kd.C_below HC10.out HBL.out); have HX12 := Tk.mk (below_then HX10.out HX10.out.size HBL.out); have HB12 := Tk.mk (below_then HB10.out HB10.out.size HBL.out); refine lit_event k26 26 ?hg (N := 35) ?hd (xs := [repT]) (inner := [.int .i64 5, .slice none 0 0, .int .i64 1000, .int .i64 1000, .bool false, .slice (some ⟨g10, 0, none⟩) 1 1]) ?hr ?hp (by simp) ?_; (case hd => rfl); (case hg => rfl); (case hr => first | (go_simp; done) | (go_simp; rfl)); (case hp => exact Reps.snoc (Reps.none _ _) (k26_mk w12 repT (Nat.le_refl 0) (Kd.C_nil _ _) (Nat.le_refl 1) HC12.out) rfl); intro g13 w13 hC13 hb13; have HC13 := Tk.mk hC13; have HX13 := Tk.mk (below_then HX12.out HX12.out.size hb13); have HB13 := Tk.mk (below_then HB12.out HB12.out.size hb13); clear hC13 hb13 hz0 hz1 hz2 hz3 hz4 hz5))
  refine (size_rep100 _ _ _ HC13.out (by omega)).mono ?_
  rintro e w14 ⟨rfl, hb14⟩
  have HX14 := Tk.mk (below_then HX13.out HX13.out.size hb14)
  have HB14 := Tk.mk (below_then HB13.out HB13.out.size hb14)
  have q0 := pw_cell_below HX14.out HQ.out.1
  have q3 := pw_cell_below HX14.out HQ.out.2.1
  have q10 := pw_cell_below HX14.out HQ.out.2.2
  have HL14 := Tk.mk (Kd.C_below HL6.out HX14.out)
  clear hb14
  go_wp2_with fail
  refine (check_nil _).mono ?_
  rintro e w15 ⟨rfl, hb15⟩
  have HB15 := Tk.mk (below_then HB14.out HB14.out.size hb15)
  have HL15 := Tk.mk (Kd.C_below HL14.out hb15)
  clear hb15
  go_wp2_with fail
  refine (check_alt _ _ _ HL15.out HCC.out).mono ?_
  rintro e w16 ⟨rfl, hb16⟩
  have HB16 := Tk.mk (below_then HB15.out HB15.out.size hb16)
  clear hb16
  go_wp2_with fail
  go_ret
  exact ⟨rfl, HB16.out⟩
end Go.Proofs.Ytbgfobdlnlkfiaa.A
