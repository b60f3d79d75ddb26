/- Lemmas of a small executor for the model, and contracts of functions, used for the law that this claim proves. No condition. -/
import Derived.Test.YtpohlkhnilcfnaaFI1
set_option linter.unusedSimpArgs false
set_option linter.unusedVariables false
namespace Go.Vx.I23
open Go Go.Proofs
def validL (l : List Iv) : List Iv := if l.length > 48 then [] else l.filter okB

theorem valid_ok (l : List Iv) (cap : Option Nat) (hl : l.length ≤ 1000000) :
    Runs Try.prog 57 [.sl 0 2 0 l.length cap] [.arr false 31 2 l.length (ivF l)] (Det (.sl 1 2 0 (validL l).length none) [.arr false 31 2 l.length (ivF l), .arr true 31 2 (validL l).length (ivF (validL l))]) := by
  refine Runs.mk tabOK Try.call57 Try.func57 rfl Try.ntmps57 Try.results57 rfl ?_
  (intro Q h; refine h ?_; clear h Q; repeat (refine seq_go ?_; intro Q h; refine h ?_; clear h Q))
  refine bcase_mk (fun h1 => ?_) (fun h1 => ?_)
  · (intro Q h; refine h ?_; clear h Q; repeat (refine seq_go ?_; intro Q h; refine h ?_; clear h Q))
    have hv : validL l = [] := by simp at h1; simp [validL]; omega
    refine ret_det [some 0, none] rfl rfl ⟨fun _ => .inr rfl, fun _ => rfl, trivial⟩ (sub_nil (by rw [hv]; rfl)) ⟨?_, ?_, trivial⟩
    · (intro Q h; refine h ?_; clear h Q; repeat (refine seq_go ?_; intro Q h; refine h ?_; clear h Q))
      exact bsub_row ivC_flat id rfl rfl
    · show (validL l).length = 0
      rw [hv]; rfl
  · (intro Q h; refine h ?_; clear h Q; repeat (refine seq_go ?_; intro Q h; refine h ?_; clear h Q))
    refine loop_mk (σ := { k : Nat // k ≤ l.length }) (fun k => ⟨[(3, .sl 1 2 0 ((l.take k.1).filter okB).length none), (9, .sl 0 2 0 l.length cap), (10, .val (.int .i64 l.length)), (11, .val (.int .i64 k.1))],
      [.arr false 31 2 l.length (ivF l), .arr true 31 2 ((l.take k.1).filter okB).length (ivF ((l.take k.1).filter okB))]⟩) (fun k => l.length - k.1) ⟨0, by omega⟩ ?_ ?_
    · refine ⟨[some 0, none], rfl, rfl, ⟨fun _ => .inr rfl, fun _ => rfl, trivial⟩, ⟨?_, ?_, ?_, ?_, trivial⟩, ⟨?_, ?_, trivial⟩⟩
      · (intro Q h; refine h ?_; clear h Q; repeat (refine seq_go ?_; intro Q h; refine h ?_; clear h Q))
        exact sub_nil rfl
      · (intro Q h; refine h ?_; clear h Q; repeat (refine seq_go ?_; intro Q h; refine h ?_; clear h Q))
        exact sub_sl rfl rfl rfl
      · (intro Q h; refine h ?_; clear h Q; repeat (refine seq_go ?_; intro Q h; refine h ?_; clear h Q))
        exact sub_int rfl
      · (intro Q h; refine h ?_; clear h Q; repeat (refine seq_go ?_; intro Q h; refine h ?_; clear h Q))
        exact sub_int rfl
      · (intro Q h; refine h ?_; clear h Q; repeat (refine seq_go ?_; intro Q h; refine h ?_; clear h Q))
        exact bsub_row ivC_flat id rfl rfl
      · exact rfl
    · rintro ⟨k, hk⟩
      (intro Q h; refine h ?_; clear h Q; repeat (refine seq_go ?_; intro Q h; refine h ?_; clear h Q))
      refine bcase_mk (fun h2 => ?_) (fun h2 => ?_)
      · simp only [decide_eq_true_eq] at h2
        have hk' : k < l.length := by omega
        (intro Q h; refine h ?_; clear h Q; repeat (refine seq_go ?_; intro Q h; refine h ?_; clear h Q))
        refine ⟨by omega, ?_⟩
        (intro Q h; refine h ?_; clear h Q; repeat (refine seq_go ?_; intro Q h; refine h ?_; clear h Q))
        refine ⟨h2, ?_⟩
        (intro Q h; refine h ?_; clear h Q; repeat (refine seq_go ?_; intro Q h; refine h ?_; clear h Q))
        refine ⟨by simp; omega, ?_⟩
        (intro Q h; refine h ?_; clear h Q; repeat (refine seq_go ?_; intro Q h; refine h ?_; clear h Q))
        refine call_det [] (check_ok (l.getD k (0, 0))) ⟨_, _, rfl, ⟨_, rfl, ?_⟩, rfl⟩ trivial rfl ?_
        · exact ⟨_, _, rfl, sub_int (by simp), _, _, rfl, sub_int (by simp), rfl⟩
        (intro Q h; refine h ?_; clear h Q; repeat (refine seq_go ?_; intro Q h; refine h ?_; clear h Q))
        refine bcase_mk (fun h3 => ?_) (fun h3 => ?_)
        · (intro Q h; refine h ?_; clear h Q; repeat (refine seq_go ?_; intro Q h; refine h ?_; clear h Q))
          refine ⟨rfl, ?_⟩
          (intro Q h; refine h ?_; clear h Q; repeat (refine seq_go ?_; intro Q h; refine h ?_; clear h Q))
          refine ⟨?_, ?_⟩
          · have := List.length_filter_le okB (l.take k); simp at this ⊢; omega
          (intro Q h; refine h ?_; clear h Q; repeat (refine seq_go ?_; intro Q h; refine h ?_; clear h Q))
          refine ⟨by decide, ?_⟩
          (intro Q h; refine h ?_; clear h Q; repeat (refine seq_go ?_; intro Q h; refine h ?_; clear h Q))
          have hstep : (l.take (k + 1)).filter okB = (l.take k).filter okB ++ [l.getD k (0, 0)] := by
            rw [filter_take okB l k (0, 0) hk', show okB (l.getD k (0, 0)) = true from h3]; rfl
          have hlen : ((l.take (k + 1)).filter okB).length = ((l.take k).filter okB).length + 1 := by rw [hstep]; simp
          refine next_mk ⟨k + 1, by omega⟩ (by simp; omega) ⟨[some 0, some 4], rfl, rfl, ⟨fun _ => .inr rfl, fun _ => rfl, trivial⟩, ⟨?_, ?_, ?_, ?_, trivial⟩, ⟨?_, ?_, trivial⟩⟩
          · (intro Q h; refine h ?_; clear h Q; repeat (refine seq_go ?_; intro Q h; refine h ?_; clear h Q))
            exact sub_sl rfl rfl (by rw [hlen])
          · (intro Q h; refine h ?_; clear h Q; repeat (refine seq_go ?_; intro Q h; refine h ?_; clear h Q))
            exact sub_sl rfl rfl rfl
          · (intro Q h; refine h ?_; clear h Q; repeat (refine seq_go ?_; intro Q h; refine h ?_; clear h Q))
            exact sub_int rfl
          · (intro Q h; refine h ?_; clear h Q; repeat (refine seq_go ?_; intro Q h; refine h ?_; clear h Q))
            exact sub_int (wrapIn (by simp; omega) (by simp; omega))
          · (intro Q h; refine h ?_; clear h Q; repeat (refine seq_go ?_; intro Q h; refine h ?_; clear h Q))
            exact bsub_row ivC_flat id rfl rfl
          · (intro Q h; refine h ?_; clear h Q; repeat (refine seq_go ?_; intro Q h; refine h ?_; clear h Q))
            rw [show (l.take (k + 1)).filter okB = (l.take k).filter okB ++ [l.getD k (0, 0)] from hstep]
            refine bsub_app ivC_flat rfl ?_ rfl fun i hi => ?_
            · simp
            · have : i = 0 := by omega
              subst this
              refine cell2 ?_ ?_
              · exact sub_int (by simp)
              · exact sub_int (by simp)
        · (intro Q h; refine h ?_; clear h Q; repeat (refine seq_go ?_; intro Q h; refine h ?_; clear h Q))
          have hstep : (l.take (k + 1)).filter okB = (l.take k).filter okB := by
            rw [filter_take okB l k (0, 0) hk', show okB (l.getD k (0, 0)) = false from h3]; simp
          refine next_mk ⟨k + 1, by omega⟩ (by simp; omega) ⟨[some 0, some 1], rfl, rfl, ⟨fun _ => .inr rfl, fun _ => rfl, trivial⟩, ⟨?_, ?_, ?_, ?_, trivial⟩, ⟨?_, ?_, trivial⟩⟩
          · (intro Q h; refine h ?_; clear h Q; repeat (refine seq_go ?_; intro Q h; refine h ?_; clear h Q))
            exact sub_sl rfl rfl (by rw [hstep])
          · (intro Q h; refine h ?_; clear h Q; repeat (refine seq_go ?_; intro Q h; refine h ?_; clear h Q))
            exact sub_sl rfl rfl rfl
          · (intro Q h; refine h ?_; clear h Q; repeat (refine seq_go ?_; intro Q h; refine h ?_; clear h Q))
            exact sub_int rfl
          · (intro Q h; refine h ?_; clear h Q; repeat (refine seq_go ?_; intro Q h; refine h ?_; clear h Q))
            exact sub_int (wrapIn (by simp; omega) (by simp; omega))
          · (intro Q h; refine h ?_; clear h Q; repeat (refine seq_go ?_; intro Q h; refine h ?_; clear h Q))
            exact bsub_row ivC_flat id rfl rfl
          · (intro Q h; refine h ?_; clear h Q; repeat (refine seq_go ?_; intro Q h; refine h ?_; clear h Q))
            exact bsub_row ivC_flat id (by rw [hstep]) (by rw [hstep])
      · (intro Q h; refine h ?_; clear h Q; repeat (refine seq_go ?_; intro Q h; refine h ?_; clear h Q))
        have hk' : k = l.length := by simp at h2; omega
        have hv : (l.take k).filter okB = validL l := by
          simp at h1
          rw [hk', List.take_length, validL, if_neg (by omega)]
        refine ret_det [some 0, some 1] rfl rfl ⟨fun _ => .inr rfl, fun _ => rfl, trivial⟩ (sub_sl rfl rfl (by rw [hv])) ⟨?_, ?_, trivial⟩
        · (intro Q h; refine h ?_; clear h Q; repeat (refine seq_go ?_; intro Q h; refine h ?_; clear h Q))
          exact bsub_row ivC_flat id rfl rfl
        · (intro Q h; refine h ?_; clear h Q; repeat (refine seq_go ?_; intro Q h; refine h ?_; clear h Q))
          exact bsub_row ivC_flat id (by rw [hv]) (by rw [hv])

theorem agrL_len (l : List Iv) (t : Int) : (agrL l t).length ≤ 48 := by
  unfold agrL
  split
  · simp
  · have := agrN_len t l l.length
    omega
theorem validL_len (l : List Iv) : (validL l).length ≤ 48 := by
  unfold validL
  split
  · simp
  · have := List.length_filter_le okB l
    omega

def mostN (l v : List Iv) : Nat → Int
  | 0 => 0
  | k + 1 => let a := mostN l v k; let b : Int := (agrL l (v.getD k (0, 0)).1).length; if b > a then b else a
def mostI (l : List Iv) : Int := mostN l (validL l) (validL l).length

theorem most_ok (l : List Iv) (cap : Option Nat) (hl : l.length ≤ 1000000) :
    Runs Try.prog 61 [.sl 0 2 0 l.length cap] [.arr false 31 2 l.length (ivF l)] (Det (.val (.int .i64 (mostI l))) [.arr false 31 2 l.length (ivF l)]) := by
  refine Runs.mk tabOK Try.call61 Try.func61 rfl Try.ntmps61 Try.results61 rfl ?_
  (intro Q h; refine h ?_; clear h Q; repeat (refine seq_go ?_; intro Q h; refine h ?_; clear h Q))
  refine call_det [some 0] (valid_ok l cap hl) ⟨_, _, rfl, sub_sl rfl rfl rfl, rfl⟩ ⟨?_, trivial⟩ rfl ?_
  · (intro Q h; refine h ?_; clear h Q; repeat (refine seq_go ?_; intro Q h; refine h ?_; clear h Q))
    exact bsub_row ivC_flat id rfl rfl
  (intro Q h; refine h ?_; clear h Q; repeat (refine seq_go ?_; intro Q h; refine h ?_; clear h Q))
  have hv := validL_len l
  refine loop_mk (σ := { k : Nat // k ≤ (validL l).length }) (fun k => ⟨[(0, .sl 0 2 0 l.length cap), (3, .val (.int .i64 (mostN l (validL l) k.1))), (7, .sl 1 2 0 (validL l).length none), (8, .val (.int .i64 (validL l).length)), (9, .val (.int .i64 k.1))],
      [.arr false 31 2 l.length (ivF l), .arr true 31 2 (validL l).length (ivF (validL l))]⟩) (fun k => (validL l).length - k.1) ⟨0, by omega⟩ ?_ ?_
  · refine ⟨[some 0, some 1], rfl, rfl, ⟨fun _ => .inr rfl, fun _ => rfl, trivial⟩, ⟨?_, ?_, ?_, ?_, ?_, trivial⟩, ⟨?_, ?_, trivial⟩⟩
    all_goals (intro Q h; refine h ?_; clear h Q; repeat (refine seq_go ?_; intro Q h; refine h ?_; clear h Q))
    · exact sub_sl rfl rfl rfl
    · exact sub_int rfl
    · exact sub_sl rfl rfl rfl
    · exact sub_int rfl
    · exact sub_int rfl
    · exact bsub_row ivC_flat id rfl rfl
    · exact bsub_rowr ivC_flat id rfl rfl
  · rintro ⟨k, hk⟩
    (intro Q h; refine h ?_; clear h Q; repeat (refine seq_go ?_; intro Q h; refine h ?_; clear h Q))
    refine bcase_mk (fun h2 => ?_) (fun h2 => ?_)
    · simp only [decide_eq_true_eq] at h2
      have hk' : k < (validL l).length := by omega
      (intro Q h; refine h ?_; clear h Q; repeat (refine seq_go ?_; intro Q h; refine h ?_; clear h Q))
      refine ⟨by omega, ?_⟩
      (intro Q h; refine h ?_; clear h Q; repeat (refine seq_go ?_; intro Q h; refine h ?_; clear h Q))
      refine ⟨h2, ?_⟩
      (intro Q h; refine h ?_; clear h Q; repeat (refine seq_go ?_; intro Q h; refine h ?_; clear h Q))
      refine ⟨by simp; omega, ?_⟩
      (intro Q h; refine h ?_; clear h Q; repeat (refine seq_go ?_; intro Q h; refine h ?_; clear h Q))
      refine call_det [some 0] (count_ok l cap ((validL l).getD k (0, 0)).1 hl) ⟨_, _, rfl, sub_sl rfl rfl rfl, _, _, rfl, sub_int (by simp), rfl⟩ ⟨?_, trivial⟩ rfl ?_
      · (intro Q h; refine h ?_; clear h Q; repeat (refine seq_go ?_; intro Q h; refine h ?_; clear h Q))
        exact bsub_row ivC_flat id rfl rfl
      (intro Q h; refine h ?_; clear h Q; repeat (refine seq_go ?_; intro Q h; refine h ?_; clear h Q))
      refine next_mk ⟨k + 1, by omega⟩ (by simp; omega) ⟨[some 0, some 1], rfl, rfl, ⟨fun _ => .inr rfl, fun _ => rfl, trivial⟩, ⟨?_, ?_, ?_, ?_, ?_, trivial⟩, ⟨?_, ?_, trivial⟩⟩
      all_goals (intro Q h; refine h ?_; clear h Q; repeat (refine seq_go ?_; intro Q h; refine h ?_; clear h Q))
      · exact sub_sl rfl rfl rfl
      · exact sub_int rfl
      · exact sub_sl rfl rfl rfl
      · exact sub_int rfl
      · exact sub_int (wrapIn (by simp; omega) (by simp; omega))
      · exact bsub_row ivC_flat id rfl rfl
      · exact bsub_row ivC_flat id rfl rfl
    · (intro Q h; refine h ?_; clear h Q; repeat (refine seq_go ?_; intro Q h; refine h ?_; clear h Q))
      have hk' : k = (validL l).length := by simp at h2; omega
      refine ret_det [some 0] rfl rfl ⟨fun _ => .inr rfl, trivial⟩ (sub_int (show mostN l (validL l) k = _ by rw [hk']; rfl)) ⟨?_, trivial⟩
      (intro Q h; refine h ?_; clear h Q; repeat (refine seq_go ?_; intro Q h; refine h ?_; clear h Q))
      exact bsub_row ivC_flat id rfl rfl

theorem mostN_le (l v : List Iv) : ∀ k, 0 ≤ mostN l v k ∧ mostN l v k ≤ 48
  | 0 => by simp [mostN]
  | k + 1 => by
    have h1 := mostN_le l v k
    have h2 := agrL_len l (v.getD k (0, 0)).1
    simp only [mostN]
    split <;> omega

theorem faulty_ok (l : List Iv) (cap : Option Nat) (hl : l.length ≤ 1000000) :
    Runs Try.prog 27 [.sl 0 2 0 l.length cap] [.arr false 31 2 l.length (ivF l)] (Det (.val (.int .i64 ((validL l).length - mostI l))) [.arr false 31 2 l.length (ivF l)]) := by
  refine Runs.mk tabOK Try.call27 Try.func27 rfl Try.ntmps27 Try.results27 rfl ?_
  (intro Q h; refine h ?_; clear h Q; repeat (refine seq_go ?_; intro Q h; refine h ?_; clear h Q))
  refine call_det [some 0] (valid_ok l cap hl) ⟨_, _, rfl, sub_sl rfl rfl rfl, rfl⟩ ⟨?_, trivial⟩ rfl ?_
  · (intro Q h; refine h ?_; clear h Q; repeat (refine seq_go ?_; intro Q h; refine h ?_; clear h Q))
    exact bsub_row ivC_flat id rfl rfl
  (intro Q h; refine h ?_; clear h Q; repeat (refine seq_go ?_; intro Q h; refine h ?_; clear h Q))
  refine call_det [some 0] (most_ok l cap hl) ⟨_, _, rfl, sub_sl rfl rfl rfl, rfl⟩ ⟨?_, trivial⟩ rfl ?_
  · (intro Q h; refine h ?_; clear h Q; repeat (refine seq_go ?_; intro Q h; refine h ?_; clear h Q))
    exact bsub_row ivC_flat id rfl rfl
  (intro Q h; refine h ?_; clear h Q; repeat (refine seq_go ?_; intro Q h; refine h ?_; clear h Q))
  have hv := validL_len l
  have hm : 0 ≤ mostI l ∧ mostI l ≤ 48 := mostN_le _ _ _
  refine ret_det [some 0] rfl rfl ⟨fun _ => .inr rfl, trivial⟩ (sub_int (wrapIn (by omega) (by omega))) ⟨?_, trivial⟩
  (intro Q h; refine h ?_; clear h Q; repeat (refine seq_go ?_; intro Q h; refine h ?_; clear h Q))
  exact bsub_row ivC_flat id rfl rfl
end Go.Vx.I23
