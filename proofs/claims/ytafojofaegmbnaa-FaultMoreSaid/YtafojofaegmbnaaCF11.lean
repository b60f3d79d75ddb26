/- Lemmas of a small executor for the model, and contracts of functions, used for the law that this claim proves. No condition. -/
import Derived.Test.YtafojofaegmbnaaCF10
import Derived.Laws.IdiomStrings
set_option linter.unusedSimpArgs false
set_option linter.unusedVariables false
set_option maxRecDepth 100000
namespace Go.Vx
/-- A loop, some rounds long. -/
def loopN (P : Program) (c : Code) (Q : Exit → Act → World → Prop) : Nat → Act → World → Prop
  | 0 => fun _ _ => False
  | m + 1 => fun a w => c.wp P (Exit.then (loopN P c Q m) Q) a w
theorem wp_loop_n {P : Program} {c : Code} {Q : Exit → Act → World → Prop} (m : Nat) {a : Act} {w : World} (h : loopN P c Q m a w) : (Code.loop c).wp P Q a w := by
  refine wp_loop_rel (fun m a w => loopN P c Q m a w) m h ?_
  intro m a w hm
  cases m with
  | zero => exact hm.elim
  | succ m =>
    intro b k cs
    obtain ⟨e, a', w', hq, harr⟩ := hm b k cs
    refine ⟨e, a', w', ?_, harr⟩
    cases e with
    | normal => exact ⟨m, Nat.lt_succ_self m, hq⟩
    | _ => exact hq
end Go.Vx
namespace Go.Vx.L55
open Go Go.Proofs
abbrev rate : ByteArray := ⟨#[82, 65, 84, 69]⟩
theorem isCode_c (w : World) : Calls Try.prog 83 #[.string rate] w fun e w' => e = .returned (.bool true) ∧ w' = w := by
  go_enter Try.func83, Try.ntmps83
  go_wp2
  refine wp_loop_n 5 ?_
  dsimp only [loopN]
  go_wp2
  go_ret
  exact ⟨rfl, rfl⟩
theorem rcode_c (w : World) : Calls Try.prog 65 #[.string rate] w fun e w' => e = .returned (.tuple #[.int .u32 1380013125, .int .i64 0]) ∧ w' = w := by
  go_enter Try.func65, Try.ntmps65
  go_wp2
  refine wp_loop_n 5 ?_
  dsimp only [loopN]
  go_wp2
  go_ret2
  exact ⟨by kernel_rfl, rfl⟩
theorem sized_ok : Runs Try.prog 97 [.val (.int .i64 4)] [] (Det (.sb true) []) := by
  refine Runs.mk tabOK Try.call97 Try.func97 rfl Try.ntmps97 Try.results97 rfl ?_
  (repeat' (first
    | (intro Q h; refine h ?_; clear h Q)
    | refine bcase_t (by first | exact beq_self_eq_true _ | decide) ?_
    | refine bcase_f (by decide) ?_
    | (with_reducible refine bcase_true ?_)
    | (with_reducible refine bcase_false ?_)
    | (refine bcase_mk (fun hb => ?_) (fun hb => ?_) <;> (try simp only [nS, nT, eq_self, reduceCtorEq] at hb))
    | refine nil_mk (fun hz => ?_) ?_
    | refine draw_mk (by decide +kernel) ?_
    | refine seq_go ?_
    | refine And.intro (by first | omega | ((try simp only [wS]); omega) | rfl | decide) ?_
    | (apply ret_mk []; (focus (iterate 2 (all_goals (repeat' (first | exact sub_dead | exact subL_nil | exact trivial | (intro Q h; refine h ?_; clear h Q) | refine And.intro ?_ ?_ | refine subL_cons ?_ ?_ | refine sub_agg ?_ | refine sub_tup ?_ | refine sub_fn ?_ | refine sub_bfn ?_ ?_ | refine var_mk ?_ | refine rd_var ?_ rfl | refine rd_rd ?_ | exact sub_ptr rfl rfl | exact sub_sl rfl rfl rfl | exact sub_refl_val _ _ | exact sub_sb rfl | exact sub_sbl rfl | exact row_same rfl rfl rfl | exact row_ren rfl rfl rfl | exact sub_nil rfl | ((first | refine sub_int ?_ | refine sub_sl rfl rfl ?_ | refine sub_nil ?_ | refine virt_mk ?_ | show (_ : Nat) = _); first | with_reducible rfl | omega | ((try simp only [wS]); omega) | rfl) | apply row_app1 | apply row_app2 | apply row_app1r | refine cells_succ ?_ ?_ | exact cell0 | with_reducible rfl | (refine And.left (b := True) ⟨?_, True.intro⟩; assumption) | refine sub_int ?_ | refine sub_sb ?_ | refine sub_sbl ?_ | refine sub_sl rfl rfl ?_ | (apply row_lit rfl; (focus (refine cells_succ ?_ ?_))) | refine row_same rfl ?_ ?_ | refine row_ren rfl ?_ ?_))))); (any_goals (apply okIx_mk; rfl)))
    | omega))
def byC (n : Int) : List AV := [.val (.int .u8 n)]
instance : FlatC byC := ⟨fun x v h => by simp [byC] at h; subst h; trivial⟩
abbrev byB : Blk := .arr false 5 1 4 (rowF byC 0 [82, 65, 84, 69])
theorem number_ok (cap : Option Nat) : Runs Try.prog 98 [.sl 0 1 0 4 cap] [byB] (Det (.val (.int .u64 1380013125)) [byB]) := by
  refine Runs.mk tabOK Try.call98 Try.func98 rfl Try.ntmps98 Try.results98 rfl ?_
  (repeat' (first
    | (intro Q h; refine h ?_; clear h Q)
    | refine bcase_t (by first | exact beq_self_eq_true _ | decide) ?_
    | refine bcase_f (by decide) ?_
    | (with_reducible refine bcase_true ?_)
    | (with_reducible refine bcase_false ?_)
    | (refine bcase_mk (fun hb => ?_) (fun hb => ?_) <;> (try simp only [nS, nT, eq_self, reduceCtorEq] at hb))
    | refine nil_mk (fun hz => ?_) ?_
    | refine draw_mk (by decide +kernel) ?_
    | refine seq_go ?_
    | refine And.intro (by first | omega | ((try simp only [wS]); omega) | rfl | decide) ?_
    | (refine loop_go 5 ?_)
    | (apply ret_mk [some 0]; (focus (iterate 2 (all_goals (repeat' (first | exact sub_dead | exact subL_nil | exact trivial | (intro Q h; refine h ?_; clear h Q) | refine And.intro ?_ ?_ | refine subL_cons ?_ ?_ | refine sub_agg ?_ | refine sub_tup ?_ | refine sub_fn ?_ | refine sub_bfn ?_ ?_ | refine var_mk ?_ | refine rd_var ?_ rfl | refine rd_rd ?_ | exact sub_ptr rfl rfl | exact sub_sl rfl rfl rfl | exact sub_refl_val _ _ | exact sub_sb rfl | exact sub_sbl rfl | exact row_same rfl rfl rfl | exact row_ren rfl rfl rfl | exact sub_nil rfl | ((first | refine sub_int ?_ | refine sub_sl rfl rfl ?_ | refine sub_nil ?_ | refine virt_mk ?_ | show (_ : Nat) = _); first | with_reducible rfl | omega | ((try simp only [wS]); omega) | rfl) | apply row_app1 | apply row_app2 | apply row_app1r | refine cells_succ ?_ ?_ | exact cell0 | with_reducible rfl | (refine And.left (b := True) ⟨?_, True.intro⟩; assumption) | refine sub_int ?_ | refine sub_sb ?_ | refine sub_sbl ?_ | refine sub_sl rfl rfl ?_ | (apply row_lit rfl; (focus (refine cells_succ ?_ ?_))) | refine row_same rfl ?_ ?_ | refine row_ren rfl ?_ ?_))))); (any_goals (apply okIx_mk; rfl)))
    | omega))
theorem get_ok (cap : Option Nat) : Runs Try.prog 84 [.sl 0 1 0 4 cap, .val (.int .i64 0), .val (.int .i64 4)] [byB] (Det (.tup [.val (.int .u64 1380013125), .val (.int .i64 0)]) [byB]) := by
  refine Runs.mk tabOK Try.call84 Try.func84 rfl Try.ntmps84 Try.results84 rfl ?_
  (repeat' (first
    | (intro Q h; refine h ?_; clear h Q)
    | refine bcase_t (by first | exact beq_self_eq_true _ | decide) ?_
    | refine bcase_f (by decide) ?_
    | (with_reducible refine bcase_true ?_)
    | (with_reducible refine bcase_false ?_)
    | (refine bcase_mk (fun hb => ?_) (fun hb => ?_) <;> (try simp only [nS, nT, eq_self, reduceCtorEq] at hb))
    | refine nil_mk (fun hz => ?_) ?_
    | refine draw_mk (by decide +kernel) ?_
    | refine seq_go ?_
    | refine And.intro (by first | omega | ((try simp only [wS]); omega) | rfl | decide) ?_
    | ((first | apply call0 (sized_ok) | apply calld0 (sized_ok)); (focus ((iterate 2 (all_goals (repeat' (first | exact sub_dead | exact subL_nil | exact trivial | (intro Q h; refine h ?_; clear h Q) | refine And.intro ?_ ?_ | refine subL_cons ?_ ?_ | refine sub_agg ?_ | refine sub_tup ?_ | refine sub_fn ?_ | refine sub_bfn ?_ ?_ | refine var_mk ?_ | refine rd_var ?_ rfl | refine rd_rd ?_ | exact sub_ptr rfl rfl | exact sub_sl rfl rfl rfl | exact sub_refl_val _ _ | exact sub_sb rfl | exact sub_sbl rfl | exact row_same rfl rfl rfl | exact row_ren rfl rfl rfl | exact sub_nil rfl | ((first | refine sub_int ?_ | refine sub_sl rfl rfl ?_ | refine sub_nil ?_ | refine virt_mk ?_ | show (_ : Nat) = _); first | with_reducible rfl | omega | ((try simp only [wS]); omega) | rfl) | apply row_app1 | apply row_app2 | apply row_app1r | refine cells_succ ?_ ?_ | exact cell0 | with_reducible rfl | (refine And.left (b := True) ⟨?_, True.intro⟩; assumption) | refine sub_int ?_ | refine sub_sb ?_ | refine sub_sbl ?_ | refine sub_sl rfl rfl ?_ | (apply row_lit rfl; (focus (refine cells_succ ?_ ?_))) | refine row_same rfl ?_ ?_ | refine row_ren rfl ?_ ?_)))); done)))
    | ((first | apply call1 (number_ok _) | apply calld1 (number_ok _)); (focus (iterate 2 (all_goals (repeat' (first | exact sub_dead | exact subL_nil | exact trivial | (intro Q h; refine h ?_; clear h Q) | refine And.intro ?_ ?_ | refine subL_cons ?_ ?_ | refine sub_agg ?_ | refine sub_tup ?_ | refine sub_fn ?_ | refine sub_bfn ?_ ?_ | refine var_mk ?_ | refine rd_var ?_ rfl | refine rd_rd ?_ | exact sub_ptr rfl rfl | exact sub_sl rfl rfl rfl | exact sub_refl_val _ _ | exact sub_sb rfl | exact sub_sbl rfl | exact row_same rfl rfl rfl | exact row_ren rfl rfl rfl | exact sub_nil rfl | ((first | refine sub_int ?_ | refine sub_sl rfl rfl ?_ | refine sub_nil ?_ | refine virt_mk ?_ | show (_ : Nat) = _); first | with_reducible rfl | omega | ((try simp only [wS]); omega) | rfl) | apply row_app1 | apply row_app2 | apply row_app1r | refine cells_succ ?_ ?_ | exact cell0 | with_reducible rfl | (refine And.left (b := True) ⟨?_, True.intro⟩; assumption) | refine sub_int ?_ | refine sub_sb ?_ | refine sub_sbl ?_ | refine sub_sl rfl rfl ?_ | (apply row_lit rfl; (focus (refine cells_succ ?_ ?_))) | refine row_same rfl ?_ ?_ | refine row_ren rfl ?_ ?_))))); (try (any_goals (first | (apply nodup_mk; rfl) | (apply nodup_mk2; rfl) | (apply nodup_mk3; rfl)))))
    | (apply ret_mk [some 0]; (focus (iterate 2 (all_goals (repeat' (first | exact sub_dead | exact subL_nil | exact trivial | (intro Q h; refine h ?_; clear h Q) | refine And.intro ?_ ?_ | refine subL_cons ?_ ?_ | refine sub_agg ?_ | refine sub_tup ?_ | refine sub_fn ?_ | refine sub_bfn ?_ ?_ | refine var_mk ?_ | refine rd_var ?_ rfl | refine rd_rd ?_ | exact sub_ptr rfl rfl | exact sub_sl rfl rfl rfl | exact sub_refl_val _ _ | exact sub_sb rfl | exact sub_sbl rfl | exact row_same rfl rfl rfl | exact row_ren rfl rfl rfl | exact sub_nil rfl | ((first | refine sub_int ?_ | refine sub_sl rfl rfl ?_ | refine sub_nil ?_ | refine virt_mk ?_ | show (_ : Nat) = _); first | with_reducible rfl | omega | ((try simp only [wS]); omega) | rfl) | apply row_app1 | apply row_app2 | apply row_app1r | refine cells_succ ?_ ?_ | exact cell0 | with_reducible rfl | (refine And.left (b := True) ⟨?_, True.intro⟩; assumption) | refine sub_int ?_ | refine sub_sb ?_ | refine sub_sbl ?_ | refine sub_sl rfl rfl ?_ | (apply row_lit rfl; (focus (refine cells_succ ?_ ?_))) | refine row_same rfl ?_ ?_ | refine row_ren rfl ?_ ?_))))); (any_goals (apply okIx_mk; rfl)))
    | omega))
theorem get_c (w : World) (g cap : Nat) (hc : 4 ≤ cap) (hcell : ∀ i, i < 4 → w.cell? ⟨g, i, none⟩ = some (.int .u8 ([82, 65, 84, 69].getD i 0))) (hg : g < w.heap.size) :
    Calls Try.prog 84 #[.slice (some ⟨g, 0, none⟩) 4 cap, .int .i64 0, .int .i64 4] w fun e w' => e = .returned (.tuple #[.int .u64 1380013125, .int .i64 0]) ∧ Keeps (fun _ => False) w w' := by
  let ι : Lay := fun b => if b = 0 then some ⟨g, 0, 4⟩ else none
  have i0 : ι 0 = some ⟨g, 0, 4⟩ := rfl
  have i1 : ∀ b, b ≠ 0 → ι b = none := fun b hb => if_neg hb
  have hW : WR (ambOf ι (blL [byB]) w) ι (blL [byB]) w := by
    refine WR.of_plain (fun b => ?_) (fun b => ?_) (fun b b' l l' hne h1 h2 h3 h4 => ?_) (fun b l hl => ?_) (Keeps.refl _ _) (fun b l h1 hl => ?_)
    · cases b <;> rfl
    · cases b with
      | zero =>
        refine .inr ⟨_, i0, Nat.le_refl _, fun i hi j hj => ?_, fun h => by cases h⟩
        have hj0 : j = 0 := by omega
        subst hj0
        refine ⟨_, by simpa using hcell i hi, rfl, ?_⟩
        rfl
      | succ b => trivial
    · cases b with
      | zero => cases h1
      | succ b => cases h1
    · by_cases hb : b = 0
      · subst hb; rw [i0] at hl; cases hl; exact hg
      · rw [i1 b hb] at hl; cases hl
    · cases b with
      | zero => cases h1
      | succ b => cases h1
  refine ((get_ok (some cap)).2 w ι [.slice (some ⟨g, 0, none⟩) 4 cap, .int .i64 0, .int .i64 4] hW (fun b hb => i1 b (by simp at hb; omega)) ?_).mono ?_
  · refine ⟨_, _, rfl, ?_, _, _, rfl, rfl, _, _, rfl, rfl, rfl⟩
    simp only [rel]
    exact ⟨_, _, rfl, hc, fun m hm => by simpa using hm, fun _ => ⟨_, i0, by simp, fun h => by cases h⟩⟩
  · rintro e w' ⟨V, Bl, v, ι', rfl, ⟨rfl, rfl⟩, _, h1, _, _, _, hW'⟩
    simp only [rel, relL] at h1
    obtain ⟨cs, rfl, _, _, rfl, rfl, _, _, rfl, rfl, rfl⟩ := h1
    refine ⟨rfl, hW'.amb.os, hW'.amb.tape, hW'.amb.output, hW'.amb.size, fun k hk _ => hW'.amb.block k hk ?_⟩
    rintro ⟨b, h2, _⟩
    cases b with
    | zero => cases h2
    | succ b => cases h2
theorem ad_heap (w : World) (o : Obj) : ((w.alloc o).drew).heap = w.heap.push o := rfl
theorem ad_cell (w : World) (C : Array Value) (t : TypeId) (fr : Nat × Nat) (i : Nat) : ((w.alloc (.cells C t fr)).drew).cell? ⟨w.heap.size, i, none⟩ = C[i]? := by
  simp only [World.cell?, ad_heap, Array.getElem?_push_size]
  rfl
theorem ad_size (w : World) (o : Obj) : w.heap.size < ((w.alloc o).drew).heap.size := by rw [ad_heap]; simp
theorem ad_keeps (w : World) (o : Obj) : Keeps (fun _ => False) w ((w.alloc o).drew) :=
  ⟨rfl, rfl, rfl, by rw [ad_heap]; simp, fun g hg _ => by rw [ad_heap, Array.getElem?_push, if_neg (Nat.ne_of_lt hg)]⟩
theorem rate_cell (m i : Nat) (hi : i < 4) : (bytesRow rate m)[i]? = some (.int .u8 ([82, 65, 84, 69].getD i 0)) := by
  unfold bytesRow
  rw [Array.getElem?_append_left (by simpa using hi)]
  obtain rfl | rfl | rfl | rfl : i = 0 ∨ i = 1 ∨ i = 2 ∨ i = 3 := by omega
  all_goals (simp [rate]; try rfl)
set_option maxHeartbeats 1000000 in
theorem code_c (w : World) : Calls Try.prog 60 #[.string rate] w fun e w' => e = .returned (.tuple #[.int .u32 1380013125, .int .i64 0]) ∧ Keeps (fun _ => False) w w' := by
  have kc := fun (w : World) => run_bytes_of_string (P := Try.prog) w 9 110 5 rate Try.underlying9 Try.underlying110 Try.underlying5
  go_enter Try.func60, Try.ntmps60
  go_wp2_with (first | (go_at_call 84; refine (get_c _ _ _ ?_ ?_ ?_).mono ?_) | (go_at_call 83; go_in))
  refine wp_loop_n 5 ?_
  dsimp only [loopN]
  go_wp2_with (go_at_call 84; refine (get_c _ _ _ ?_ ?_ ?_).mono ?_)
  · exact grownCap_ge w 4 0 5
  · intro i hi
    exact (ad_cell w _ _ _ i).trans (rate_cell _ i hi)
  · exact ad_size w _
  · rintro e w' ⟨rfl, hk⟩
    go_wp2
    go_ret2
    exact ⟨by kernel_rfl, (ad_keeps w _).trans hk fun _ _ h => h⟩
/-- A function of values alone, that leaves what was there as it was. -/
theorem runs_keep {g : FuncId} {xs : List Value} {V : AV} {v : Value} (hcall : ∀ ys w, (callFunc g ys).run Try.prog w = .ok (.enter g ys) w) (hV : ∀ ι, rel ι V v)
    (h : ∀ w, Calls Try.prog g xs.toArray w fun e w' => e = .returned v ∧ Keeps (fun _ => False) w w') : Runs Try.prog g (xs.map .val) [] (Det V []) := by
  refine ⟨hcall, fun w ι cs hW hdom hrel => ?_⟩
  have relL_vals : ∀ (xs cs : List Value), relL ι (xs.map .val) cs → cs = xs := by
    intro xs
    induction xs with
    | nil => intro cs h; simpa [relL] using h
    | cons a r ih =>
      intro cs h
      simp only [List.map_cons, relL, rel] at h
      obtain ⟨c, r', rfl, rfl, h2⟩ := h
      rw [ih r' h2]
  obtain rfl := relL_vals xs cs hrel
  refine (h w).mono ?_
  rintro e w' ⟨rfl, hk⟩
  have hd : ∀ b, ι b = none := fun b => hdom b (by simp)
  refine ⟨_, _, _, ι, rfl, ⟨rfl, rfl⟩, by simp, hV ι, fun _ _ => rfl, fun b _ => hd b, fun b hb => ?_, ?_⟩
  · simp [blL, Blk.live] at hb
  · exact WR.of_plain (fun b => rfl) (fun b => trivial) (fun b b' l l' _ h1 _ _ _ => by simp [blL, Blk.rw] at h1) (fun b l hl => by rw [hd b] at hl; cases hl) ⟨hk.os, hk.tape, hk.output, hk.size, fun g hg _ => hk.block g hg id⟩ (fun b l h1 _ => by simp [blL, Blk.rw] at h1)
theorem code_ok : Runs Try.prog 60 [.val (.string rate)] [] (Det (.tup [.val (.int .u32 1380013125), .val (.int .i64 0)]) []) :=
  runs_keep (xs := [.string rate]) Try.call60 (fun ι => ⟨_, rfl, _, _, rfl, rfl, _, _, rfl, rfl, rfl⟩) code_c
theorem rcode_ok : Runs Try.prog 65 [.val (.string rate)] [] (Det (.tup [.val (.int .u32 1380013125), .val (.int .i64 0)]) []) :=
  runs_keep (xs := [.string rate]) Try.call65 (fun ι => ⟨_, rfl, _, _, rfl, rfl, _, _, rfl, rfl, rfl⟩) fun w => (rcode_c w).mono fun e w' ⟨h1, h2⟩ => ⟨h1, by rw [h2]; exact Keeps.refl _ _⟩
end Go.Vx.L55
