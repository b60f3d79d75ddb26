/- Lemmas of a small executor for the model, and contracts of functions, used for the law that this claim proves. No condition. -/
import Derived.Test.YtpohlkhnilcfnaaFW2
import Derived.Test.YtpohlkhnilcfnaaFVt0
set_option linter.unusedSimpArgs false
set_option linter.unusedVariables false
namespace Go.Vx.I23
open Go Go.Proofs
abbrev Iv := Int × Int
def ivC (p : Iv) : List AV := [.val (.int .i64 p.1), .val (.int .i64 p.2)]
abbrev ivF (l : List Iv) : Nat → Nat → AV := rowF ivC (0, 0) l
theorem ivC_flat : Flat ivC := fun x v h => by simp [ivC] at h; rcases h with rfl | rfl <;> trivial
def ivA (p : Iv) : AV := .agg [.val (.int .i64 p.1), .val (.int .i64 p.2)]
/-- drift.Check. -/
def chk (p : Iv) : Int := if p.1 > p.2 ∨ p.1 < -8000000000000000000 ∨ p.2 > 8000000000000000000 then 3 else 0
def okB (p : Iv) : Bool := chk p == 0
def hasB (p : Iv) (t : Int) : Bool := okB p && (decide (p.1 ≤ t) && decide (t ≤ p.2))

theorem check_ok (p : Iv) : Runs Try.prog 33 [ivA p] [] (Det (.val (.int .i64 (chk p))) []) := by
  refine Runs.mk tabOK Try.call33 Try.func33 rfl Try.ntmps33 Try.results33 rfl ?_
  (intro Q h; refine h ?_; clear h Q; repeat (refine seq_go ?_; intro Q h; refine h ?_; clear h Q))
  refine bcase_mk (fun h1 => ?_) (fun h1 => ?_)
  · (intro Q h; refine h ?_; clear h Q; repeat (refine seq_go ?_; intro Q h; refine h ?_; clear h Q))
    refine ret_det [] rfl rfl trivial (sub_int ?_) trivial
    simp at h1
    simp [chk, h1]
  (intro Q h; refine h ?_; clear h Q; repeat (refine seq_go ?_; intro Q h; refine h ?_; clear h Q))
  refine bcase_mk (fun h2 => ?_) (fun h2 => ?_)
  · (intro Q h; refine h ?_; clear h Q; repeat (refine seq_go ?_; intro Q h; refine h ?_; clear h Q))
    refine ret_det [] rfl rfl trivial (sub_int ?_) trivial
    simp at h1 h2
    simp [chk, h2]
  (intro Q h; refine h ?_; clear h Q; repeat (refine seq_go ?_; intro Q h; refine h ?_; clear h Q))
  refine bcase_mk (fun h3 => ?_) (fun h3 => ?_)
  · (intro Q h; refine h ?_; clear h Q; repeat (refine seq_go ?_; intro Q h; refine h ?_; clear h Q))
    refine ret_det [] rfl rfl trivial (sub_int ?_) trivial
    simp at h1 h2 h3
    simp [chk, h3]
  · (intro Q h; refine h ?_; clear h Q; repeat (refine seq_go ?_; intro Q h; refine h ?_; clear h Q))
    refine ret_det [] rfl rfl trivial (sub_int ?_) trivial
    simp at h1 h2 h3
    unfold chk
    rw [if_neg]
    omega

theorem has_ok (p : Iv) (t : Int) : Runs Try.prog 34 [ivA p, .val (.int .i64 t)] [] (Det (.sb (hasB p t)) []) := by
  refine Runs.mk tabOK Try.call34 Try.func34 rfl Try.ntmps34 Try.results34 rfl ?_
  (intro Q h; refine h ?_; clear h Q; repeat (refine seq_go ?_; intro Q h; refine h ?_; clear h Q))
  refine call_det [] (check_ok p) ⟨_, _, rfl, ⟨_, rfl, _, _, rfl, sub_int rfl, _, _, rfl, sub_int rfl, rfl⟩, rfl⟩ trivial rfl ?_
  (intro Q h; refine h ?_; clear h Q; repeat (refine seq_go ?_; intro Q h; refine h ?_; clear h Q))
  refine bcase_mk (fun h1 => ?_) (fun h1 => ?_)
  · (intro Q h; refine h ?_; clear h Q; repeat (refine seq_go ?_; intro Q h; refine h ?_; clear h Q))
    refine bcase_mk (fun h2 => ?_) (fun h2 => ?_)
    · (intro Q h; refine h ?_; clear h Q; repeat (refine seq_go ?_; intro Q h; refine h ?_; clear h Q))
      refine ret_det [] rfl rfl trivial (sub_sb ?_) trivial
      have h1 : okB p = true := h1
      simp only [hasB, h1, h2, Bool.true_and]
    · (intro Q h; refine h ?_; clear h Q; repeat (refine seq_go ?_; intro Q h; refine h ?_; clear h Q))
      refine ret_det [] rfl rfl trivial (sub_sbl ?_) trivial
      have h1 : okB p = true := h1
      simp only [hasB, h1, h2, Bool.true_and, Bool.false_and]
  · (intro Q h; refine h ?_; clear h Q; repeat (refine seq_go ?_; intro Q h; refine h ?_; clear h Q))
    refine ret_det [] rfl rfl trivial (sub_sbl ?_) trivial
    simp at h1
    simp [hasB, okB, h1]

def agrN (t : Int) (l : List Iv) : Nat → List Int
  | 0 => []
  | k + 1 => agrN t l k ++ (bif hasB (l.getD k (0, 0)) t then [(k : Int)] else [])
def agrL (l : List Iv) (t : Int) : List Int := if l.length > 48 then [] else agrN t l l.length
theorem agrN_len (t : Int) (l : List Iv) : ∀ k, (agrN t l k).length ≤ k
  | 0 => by simp [agrN]
  | k + 1 => by
    have := agrN_len t l k
    simp only [agrN, List.length_append]
    cases hasB (l.getD k (0, 0)) t <;> simp <;> omega

theorem agree_ok (l : List Iv) (cap : Option Nat) (t : Int) (hl : l.length ≤ 1000000) :
    Runs Try.prog 20 [.sl 0 2 0 l.length cap, .val (.int .i64 t)] [.arr false 31 2 l.length (ivF l)] (Det (.sl 1 1 0 (agrL l t).length none) [.arr false 31 2 l.length (ivF l), .arr true 3 1 (agrL l t).length (intF (agrL l t))]) := by
  refine Runs.mk tabOK Try.call20 Try.func20 rfl Try.ntmps20 Try.results20 rfl ?_
  (intro Q h; refine h ?_; clear h Q; repeat (refine seq_go ?_; intro Q h; refine h ?_; clear h Q))
  refine bcase_mk (fun h1 => ?_) (fun h1 => ?_)
  · (intro Q h; refine h ?_; clear h Q; repeat (refine seq_go ?_; intro Q h; refine h ?_; clear h Q))
    have hv : agrL l t = [] := by simp at h1; simp [agrL]; omega
    refine ret_det [some 0, none] rfl rfl ⟨fun _ => .inr rfl, fun _ => rfl, trivial⟩ (sub_nil (by rw [hv]; rfl)) ⟨?_, ?_, trivial⟩
    · (intro Q h; refine h ?_; clear h Q; repeat (refine seq_go ?_; intro Q h; refine h ?_; clear h Q))
      exact bsub_row ivC_flat id rfl rfl
    · show (agrL l t).length = 0
      rw [hv]; rfl
  · (intro Q h; refine h ?_; clear h Q; repeat (refine seq_go ?_; intro Q h; refine h ?_; clear h Q))
    refine loop_mk (σ := { k : Nat // k ≤ l.length }) (fun k => ⟨[(1, .val (.int .i64 t)), (5, .sl 1 1 0 (agrN t l k.1).length none), (11, .sl 0 2 0 l.length cap), (12, .val (.int .i64 l.length)), (13, .val (.int .i64 k.1))],
      [.arr false 31 2 l.length (ivF l), .arr true 3 1 (agrN t l k.1).length (intF (agrN t l k.1))]⟩) (fun k => l.length - k.1) ⟨0, by omega⟩ ?_ ?_
    · refine ⟨[some 0, none], rfl, rfl, ⟨fun _ => .inr rfl, fun _ => rfl, trivial⟩, ⟨?_, ?_, ?_, ?_, ?_, trivial⟩, ⟨?_, rfl, trivial⟩⟩
      all_goals (intro Q h; refine h ?_; clear h Q; repeat (refine seq_go ?_; intro Q h; refine h ?_; clear h Q))
      · exact sub_int rfl
      · exact sub_nil rfl
      · exact sub_sl rfl rfl rfl
      · exact sub_int rfl
      · exact sub_int rfl
      · exact bsub_row ivC_flat id rfl rfl
    · rintro ⟨k, hk⟩
      (intro Q h; refine h ?_; clear h Q; repeat (refine seq_go ?_; intro Q h; refine h ?_; clear h Q))
      refine bcase_mk (fun h2 => ?_) (fun h2 => ?_)
      · simp only [decide_eq_true_eq] at h2
        have hk' : k < l.length := by omega
        have hlen := agrN_len t l k
        (intro Q h; refine h ?_; clear h Q; repeat (refine seq_go ?_; intro Q h; refine h ?_; clear h Q))
        refine ⟨by omega, ?_⟩
        (intro Q h; refine h ?_; clear h Q; repeat (refine seq_go ?_; intro Q h; refine h ?_; clear h Q))
        refine ⟨h2, ?_⟩
        (intro Q h; refine h ?_; clear h Q; repeat (refine seq_go ?_; intro Q h; refine h ?_; clear h Q))
        refine ⟨by simp; omega, ?_⟩
        (intro Q h; refine h ?_; clear h Q; repeat (refine seq_go ?_; intro Q h; refine h ?_; clear h Q))
        refine call_det [] (has_ok (l.getD k (0, 0)) t) ⟨_, _, rfl, ⟨_, rfl, _, _, rfl, sub_int (by simp), _, _, rfl, sub_int (by simp), rfl⟩, _, _, rfl, sub_int rfl, rfl⟩ trivial rfl ?_
        (intro Q h; refine h ?_; clear h Q; repeat (refine seq_go ?_; intro Q h; refine h ?_; clear h Q))
        refine bcase_mk (fun h3 => ?_) (fun h3 => ?_)
        · (intro Q h; refine h ?_; clear h Q; repeat (refine seq_go ?_; intro Q h; refine h ?_; clear h Q))
          refine ⟨rfl, ?_⟩
          (intro Q h; refine h ?_; clear h Q; repeat (refine seq_go ?_; intro Q h; refine h ?_; clear h Q))
          refine ⟨by simp; omega, ?_⟩
          (intro Q h; refine h ?_; clear h Q; repeat (refine seq_go ?_; intro Q h; refine h ?_; clear h Q))
          refine ⟨by decide, ?_⟩
          (intro Q h; refine h ?_; clear h Q; repeat (refine seq_go ?_; intro Q h; refine h ?_; clear h Q))
          have hstep : agrN t l (k + 1) = agrN t l k ++ [(k : Int)] := by simp only [agrN, h3]; rfl
          refine next_mk ⟨k + 1, by omega⟩ (by simp; omega) ⟨[some 0, some 4], rfl, rfl, ⟨fun _ => .inr rfl, fun _ => rfl, trivial⟩, ⟨?_, ?_, ?_, ?_, ?_, trivial⟩, ⟨?_, ?_, trivial⟩⟩
          all_goals (intro Q h; refine h ?_; clear h Q; repeat (refine seq_go ?_; intro Q h; refine h ?_; clear h Q))
          · exact sub_int rfl
          · exact sub_sl rfl rfl (by rw [hstep]; simp)
          · exact sub_sl rfl rfl rfl
          · exact sub_int rfl
          · exact sub_int (wrapIn (by simp; omega) (by simp; omega))
          · exact bsub_row ivC_flat id rfl rfl
          · rw [show agrN t l (k + 1) = agrN t l k ++ [(k : Int)] from hstep]
            refine bsub_app intC_flat rfl (by simp) rfl fun i hi => ?_
            have : i = 0 := by omega
            subst this
            exact cell1 (sub_int rfl)
        · (intro Q h; refine h ?_; clear h Q; repeat (refine seq_go ?_; intro Q h; refine h ?_; clear h Q))
          have hstep : agrN t l (k + 1) = agrN t l k := by simp only [agrN, h3]; simp
          refine next_mk ⟨k + 1, by omega⟩ (by simp; omega) ⟨[some 0, some 1], rfl, rfl, ⟨fun _ => .inr rfl, fun _ => rfl, trivial⟩, ⟨?_, ?_, ?_, ?_, ?_, trivial⟩, ⟨?_, ?_, trivial⟩⟩
          all_goals (intro Q h; refine h ?_; clear h Q; repeat (refine seq_go ?_; intro Q h; refine h ?_; clear h Q))
          · exact sub_int rfl
          · exact sub_sl rfl rfl (by rw [hstep])
          · exact sub_sl rfl rfl rfl
          · exact sub_int rfl
          · exact sub_int (wrapIn (by simp; omega) (by simp; omega))
          · exact bsub_row ivC_flat id rfl rfl
          · exact bsub_row intC_flat id (by rw [hstep]) (by rw [hstep])
      · (intro Q h; refine h ?_; clear h Q; repeat (refine seq_go ?_; intro Q h; refine h ?_; clear h Q))
        have hk' : k = l.length := by simp at h2; omega
        have hv : agrN t l k = agrL l t := by
          simp at h1
          rw [hk', agrL, if_neg (by omega)]
        refine ret_det [some 0, some 1] rfl rfl ⟨fun _ => .inr rfl, fun _ => rfl, trivial⟩ (sub_sl rfl rfl (by rw [hv])) ⟨?_, ?_, trivial⟩
        all_goals (intro Q h; refine h ?_; clear h Q; repeat (refine seq_go ?_; intro Q h; refine h ?_; clear h Q))
        · exact bsub_row ivC_flat id rfl rfl
        · exact bsub_row intC_flat id (by rw [hv]) (by rw [hv])

theorem count_ok (l : List Iv) (cap : Option Nat) (t : Int) (hl : l.length ≤ 1000000) :
    Runs Try.prog 17 [.sl 0 2 0 l.length cap, .val (.int .i64 t)] [.arr false 31 2 l.length (ivF l)] (Det (.val (.int .i64 (agrL l t).length)) [.arr false 31 2 l.length (ivF l)]) := by
  refine Runs.mk tabOK Try.call17 Try.func17 rfl Try.ntmps17 Try.results17 rfl ?_
  (intro Q h; refine h ?_; clear h Q; repeat (refine seq_go ?_; intro Q h; refine h ?_; clear h Q))
  refine call_det [some 0] (agree_ok l cap t hl) ⟨_, _, rfl, sub_sl rfl rfl rfl, _, _, rfl, sub_int rfl, rfl⟩ ⟨?_, trivial⟩ rfl ?_
  · (intro Q h; refine h ?_; clear h Q; repeat (refine seq_go ?_; intro Q h; refine h ?_; clear h Q))
    exact bsub_row ivC_flat id rfl rfl
  (intro Q h; refine h ?_; clear h Q; repeat (refine seq_go ?_; intro Q h; refine h ?_; clear h Q))
  refine ret_det [some 0] rfl rfl ⟨fun _ => .inr rfl, trivial⟩ (sub_int rfl) ⟨?_, trivial⟩
  (intro Q h; refine h ?_; clear h Q; repeat (refine seq_go ?_; intro Q h; refine h ?_; clear h Q))
  exact bsub_row ivC_flat id rfl rfl
end Go.Vx.I23
