/- Lemmas of a small executor for the model, and contracts of functions, used for the law that this claim proves. No condition. -/
import Derived.Test.YtodbfpjjahpahaaDoorEA8
set_option linter.unusedSimpArgs false
set_option linter.unusedVariables false
set_option maxRecDepth 100000
namespace Go.Vx.L42
open Go Go.Proofs
theorem addKey_mem (ks : List (List Int)) (n k : List Int) : k ∈ addKey ks n ↔ k ∈ ks ∨ k = n := by
  unfold addKey
  cases h : ks.contains n with
  | true =>
    rw [cond_true]
    exact ⟨.inl, fun e => e.elim id fun e => e ▸ List.contains_iff_mem.1 h⟩
  | false => rw [cond_false]; simp
theorem pkN_mem (x : Nat) : ∀ (L : List Int) (ks : List (List Int)) (k : List Int), k ∈ pkN x L ks ↔ k ∈ ks ∨ ∃ p ∈ L, k = [(x : Int), p]
  | [], ks, k => by simp [pkN]
  | p :: L, ks, k => by
    have ih := pkN_mem x L (addKey ks [(x : Int), p]) k
    unfold pkN at ih ⊢
    rw [List.foldl_cons, ih, addKey_mem]
    simp [or_assoc]
theorem pkA_mem (n : Int) (l : List Ed) : ∀ (x : Nat) (k : List Int), k ∈ pkA n l x ↔ ∃ z, z < x ∧ ∃ p ∈ rpL n l z 8, k = [(z : Int), p]
  | 0, k => by simp [pkA]
  | x + 1, k => by
    rw [pkA, pkN_mem, pkA_mem n l x]
    constructor
    · rintro (⟨z, hz, p, hp, e⟩ | ⟨p, hp, e⟩)
      · exact ⟨z, by omega, p, hp, e⟩
      · exact ⟨x, by omega, p, hp, e⟩
    · rintro ⟨z, hz, p, hp, e⟩
      by_cases h : z = x
      · subst h; exact .inr ⟨p, hp, e⟩
      · exact .inl ⟨z, by omega, p, hp, e⟩
def meC (m : Mm) : List AV := .val (.int .i64 m.node) :: .val (.int .i64 m.port) :: .val (.int .i64 m.age) :: dC m.set
instance : FlatC meC := ⟨fun x v h => by simp [meC, dC] at h; rcases h with rfl | rfl | rfl | rfl | rfl | rfl | rfl | rfl | rfl | rfl | rfl | rfl | rfl | rfl <;> trivial⟩
abbrev mm0 : Mm := ⟨0, 0, 0, default⟩
abbrev meF (l : List Mm) : Nat → Nat → AV := rowF meC mm0 l
abbrev meB (rw : Bool) (l : List Mm) : Blk := .arr rw 157 14 l.length (meF l)
def lastK (ms : List Mm) : Nat → Int × Int
  | 0 => (-1, 0)
  | x + 1 => ((ms.getD x mm0).node, (ms.getD x mm0).port)
/-- Is the memo at a place valid, and behind the one before it? -/
def okM (ns : List Nd) (pk : List (List Int)) (ms : List Mm) (i : Nat) : Bool := vlM ns pk (ms.getD i mm0) && decide (¬ ((ms.getD i mm0).node < (lastK ms i).1 ∨ ((ms.getD i mm0).node = (lastK ms i).1 ∧ (ms.getD i mm0).port ≤ (lastK ms i).2)))
def okL (ns : List Nd) (pk : List (List Int)) (ms : List Mm) : Bool := (List.range ms.length).all (okM ns pk ms)
def ad1 (s : MS) (m : Mm) : MS := ⟨addKey s.ks [m.node, m.port], fun k => bif k == [m.node, m.port] then m else s.g k⟩
def entP (ms : List Mm) : Nat → MS
  | 0 => ⟨[], fun _ => mm0⟩
  | x + 1 => ad1 (entP ms x) (ms.getD x mm0)
abbrev entS (ms : List Mm) : MS := entP ms ms.length
theorem en_upd {ρ : Nat → Option Nat} {s : MS} {m : Mm} {v : AV} (hv : sub ρ (meA m) v) : BSub ρ (mB (ad1 s m)) (.map (some 2) (addKey s.ks [m.node, m.port]) (updK (fun k => meA (s.g k)) [m.node, m.port] v)) := by
  refine mapa_upd meA_flat rfl ?_ fun x _ hne => ?_
  · show sub ρ (meA ((ad1 s m).g [m.node, m.port])) v
    have : (ad1 s m).g [m.node, m.port] = m := by simp [ad1]
    rw [this]; exact hv
  · have : (ad1 s m).g x = s.g x := by
      have e : (x == [m.node, m.port]) = false := by simpa using hne
      simp only [ad1, e, cond_false]
    show meA (s.g x) = meA ((ad1 s m).g x)
    rw [this]
/-- The error of a network and a state. -/
def enE (m : Int) (l : List Ed) (ns : List Nd) (rd : Int) (ms : List Mm) : Int := if ckE m l ns ≠ 0 then ckE m l ns else if rd < 0 ∨ 1073741824 < rd then 2 else if okL ns (pkA m l ns.length) ms = true then 0 else 2
theorem ckE_zero {n : Int} {l : List Ed} {ns : List Nd} (h : ckE n l ns = 0) : ckC n l = 0 ∧ (ns.length : Int) = n ∧ ckN2 ns ns.length 0 = 0 := by
  unfold ckE at h
  by_cases h1 : ckC n l = 0
  · rw [if_neg (by omega)] at h
    by_cases h2 : (ns.length : Int) = n
    · rw [if_neg (by omega)] at h; exact ⟨h1, h2, h⟩
    · rw [if_pos h2] at h; cases h
  · rw [if_pos h1] at h; exact absurd h h1
abbrev aBl (rd : Int) (ms : List Mm) (cap : Option Nat) (b : Nat) : AV := .agg [.val (.int .i64 rd), .sl b 14 0 ms.length cap]
abbrev nilF : AV := .agg [.val (.slice none 0 0), .val (.slice none 0 0), .val (.map none)]
theorem okL_step {ns : List Nd} {pk : List (List Int)} {ms : List Mm} {i : Nat} (hi : i < ms.length) (h : okM ns pk ms i = false) : okL ns pk ms = false := by
  unfold okL
  rw [List.all_eq_false]
  exact ⟨i, List.mem_range.2 hi, by rw [h]; simp⟩
set_option maxHeartbeats 4000000 in
theorem enter_ok (n : Int) (l : List Ed) (cap : Option Nat) (hl : l.length ≤ maxLen) (ns : List Nd) (cap' : Option Nat) (hn : ns.length ≤ maxLen) (rd : Int) (ms : List Mm) (cap2 : Option Nat) (hm : ms.length ≤ maxLen) :
    (enE n l ns rd ms ≠ 0 → Runs Tryd.prog 38 [aN n l cap ns cap', aBl rd ms cap2 2] [gB l, ndB ns, meB false ms] (Det (.tup [nilF, .val (.map none), .val (.int .i64 (enE n l ns rd ms))]) [gB l, ndB ns, meB false ms])) ∧
    (enE n l ns rd ms = 0 → Runs Tryd.prog 38 [aN n l cap ns cap', aBl rd ms cap2 2] [gB l, ndB ns, meB false ms] (Det (.tup [.agg [.sl 1 6 0 ns.length cap', .sl 3 1 0 ns.length none, .map 4], .map 5, .val (.int .i64 0)]) [gB l, ndB ns, meB false ms, .fam true 58 3 1 ns.length (famF intC 0 (prR n l ns.length)) none 0, peB (pkA n l ns.length) (gpF l), mB (entS ms)])) := by
  have hmx : maxLen = 9223372036854775807 := by decide
  have hck := echeck_ok n l cap hl ns cap' hn
  by_cases hc : ckE n l ns = 0
  rotate_left
  · have e : enE n l ns rd ms = ckE n l ns := by unfold enE; rw [if_pos hc]
    refine ⟨fun _ => ?_, fun h => absurd (e ▸ h) hc⟩
    rw [e]
    generalize ckE n l ns = c at *
    refine Runs.mk tabOK Tryd.call38 Tryd.func38 rfl Tryd.ntmps38 Tryd.results38 rfl ?_
    (repeat' (first
    | (intro Q h; refine h ?_; clear h Q)
    | (refine bcase_mk (fun hb => ?_) (fun hb => ?_) <;> (try simp only [nS, nT, eq_self, reduceCtorEq] at hb) <;> (try (exfalso; (first | omega ); done)))
    | refine seq_go ?_
    | ((first | apply call_detx [some 0, some 1] (hck) ); (focus ((iterate 2 (all_goals (repeat' (first | exact subL_nil | exact trivial | (intro Q h; refine h ?_; clear h Q) | refine And.intro ?_ ?_ | refine subL_cons ?_ ?_ | refine sub_agg ?_ | exact sub_sl rfl rfl rfl | exact sub_refl_val _ _ | exact row_same rfl rfl rfl )))))); (any_goals (first | (apply nodup_mk; rfl) )))
    | (apply ret_mk [some 0, some 1, some 2]; (focus (iterate 2 (all_goals (repeat' (first | exact subL_nil | exact trivial | (intro Q h; refine h ?_; clear h Q) | refine And.intro ?_ ?_ | refine subL_cons ?_ ?_ | refine sub_agg ?_ | refine sub_tup ?_ | exact sub_refl_val _ _ | exact row_same rfl rfl rfl ))))); (any_goals (apply okIx_mk; rfl)))
    ))
  obtain ⟨hc1, hc2, _⟩ := ckE_zero hc
  rw [hc] at hck
  subst hc2
  have hsu := survey_ok ns.length l cap hl ns cap' rfl hc1
  by_cases hrd : rd < 0 ∨ 1073741824 < rd
  · have e : enE ns.length l ns rd ms = 2 := by unfold enE; rw [if_neg (by omega), if_pos hrd]
    refine ⟨fun _ => ?_, fun h => by rw [e] at h; cases h⟩
    rw [e]
    rcases hrd with hrd | hrd
    all_goals
      refine Runs.mk tabOK Tryd.call38 Tryd.func38 rfl Tryd.ntmps38 Tryd.results38 rfl ?_
      (repeat' (first
    | (intro Q h; refine h ?_; clear h Q)
    | (refine bcase_mk (fun hb => ?_) (fun hb => ?_) <;> (try simp only [nS, nT, eq_self, reduceCtorEq] at hb) <;> (try (exfalso; (first | omega ); done)))
    | refine seq_go ?_
    | ((first | apply call_detx [some 0, some 1] (hck) ); (focus ((iterate 2 (all_goals (repeat' (first | exact subL_nil | exact trivial | (intro Q h; refine h ?_; clear h Q) | refine And.intro ?_ ?_ | refine subL_cons ?_ ?_ | refine sub_agg ?_ | exact sub_sl rfl rfl rfl | exact sub_refl_val _ _ | exact row_same rfl rfl rfl )))))); (any_goals (first | (apply nodup_mk; rfl) )))
    | ((first | apply call_detx [some 0, some 1] (hsu) ); (focus ((iterate 2 (all_goals (repeat' (first | exact subL_nil | exact trivial | (intro Q h; refine h ?_; clear h Q) | refine And.intro ?_ ?_ | refine subL_cons ?_ ?_ | refine sub_agg ?_ | exact sub_sl rfl rfl rfl | exact sub_refl_val _ _ | exact row_same rfl rfl rfl )))))); (any_goals (first | (apply nodup_mk; rfl) )))
    | (apply ret_mk [some 0, some 1, some 2]; (focus (iterate 2 (all_goals (repeat' (first | exact subL_nil | exact trivial | (intro Q h; refine h ?_; clear h Q) | refine And.intro ?_ ?_ | refine subL_cons ?_ ?_ | refine sub_agg ?_ | refine sub_tup ?_ | exact sub_refl_val _ _ | exact row_same rfl rfl rfl ))))); (any_goals (apply okIx_mk; rfl)))
    ))
  have hrd' : 0 ≤ rd ∧ rd ≤ 1073741824 := by omega
  have hrl := prR_len ns.length l ns.length
  have hpk : ∀ a p : Int, [a, p] ∈ pkA ns.length l ns.length → 0 ≤ a ∧ a < ns.length := fun a p h => by
    obtain ⟨z, h1, p', _, h3⟩ := (pkA_mem ..).1 h
    simp only [List.cons.injEq] at h3
    omega
  cases hL : okL ns (pkA ns.length l ns.length) ms
  · have e : enE ns.length l ns rd ms = 2 := by unfold enE; rw [if_neg (by omega), if_neg (by omega), hL]; rfl
    refine ⟨fun _ => ?_, fun h => by rw [e] at h; cases h⟩
    rw [e]
    refine Runs.mk tabOK Tryd.call38 Tryd.func38 rfl Tryd.ntmps38 Tryd.results38 rfl ?_
    (repeat' (first
    | (intro Q h; refine h ?_; clear h Q)
    | (refine bcase_mk (fun hb => ?_) (fun hb => ?_) <;> (try simp only [nS, nT, eq_self, reduceCtorEq] at hb) <;> (try (exfalso; (first | omega ); done)))
    | refine seq_go ?_
    | ((first | apply call_detx [some 0, some 1] (hck) ); (focus ((iterate 2 (all_goals (repeat' (first | exact subL_nil | exact trivial | (intro Q h; refine h ?_; clear h Q) | refine And.intro ?_ ?_ | refine subL_cons ?_ ?_ | refine sub_agg ?_ | exact sub_sl rfl rfl rfl | exact sub_refl_val _ _ | exact row_same rfl rfl rfl )))))); (any_goals (first | (apply nodup_mk; rfl) )))
    | ((first | apply call_detx [some 0, some 1] (hsu) ); (focus ((iterate 2 (all_goals (repeat' (first | exact subL_nil | exact trivial | (intro Q h; refine h ?_; clear h Q) | refine And.intro ?_ ?_ | refine subL_cons ?_ ?_ | refine sub_agg ?_ | exact sub_sl rfl rfl rfl | exact sub_refl_val _ _ | exact row_same rfl rfl rfl )))))); (any_goals (first | (apply nodup_mk; rfl) )))
    ))
    refine loop_inv (σ := Nat) (fun x => x ≤ ms.length ∧ ∀ y, y < x → okM ns (pkA ns.length l ns.length) ms y = true) (fun x => ⟨[(4, .ptr 3 3 0 0), (8, .ptr 6 3 0 0), (9, .map 7), (10, .ptr 8 2 0 0), (34, .sl 2 14 0 ms.length cap2), (35, .val (.int .i64 ms.length)), (36, .val (.int .i64 x))], [gB l, ndB ns, meB false ms, .var [.val (.slice none 0 0), .val (.slice none 0 0), .val (.map none)], .fam true 58 3 1 ns.length (famF intC 0 (prR ns.length l ns.length)) none 0, peB (pkA ns.length l ns.length) (gpF l), .var [.sl 1 6 0 ns.length cap', .sl 4 1 0 ns.length none, .map 5], mB (entP ms x), .var [.val (.int .i64 (lastK ms x).1), .val (.int .i64 (lastK ms x).2)]]⟩) (fun x => ms.length - x) (0) ?_ ?_ ?_
    · exact ⟨by omega, fun y h => by omega⟩
    · (apply le_mk [some 0, some 1, some 2, some 5, some 6, some 7, some 8, some 9, some 10]; (focus (iterate 2 (all_goals (repeat' (first | exact fam_ren rfl rfl rfl | exact mapa_same plA_flat rfl (fun _ _ => rfl) | exact sub_map rfl | refine map_mk ?_ ?_ | exact subL_nil | exact trivial | (intro Q h; refine h ?_; clear h Q) | refine And.intro ?_ ?_ | refine subL_cons ?_ ?_ | refine var_mk ?_ | exact sub_ptr rfl rfl | exact sub_sl rfl rfl rfl | exact sub_refl_val _ _ | exact row_same rfl rfl rfl ))))); (any_goals (apply okIx_mk; rfl)))
      · rfl
      · intro x hx; cases hx
    rintro i ⟨hi, hie⟩
    have hz : 0 + Int.toNat (i : Int) = i := by omega
    have hva := valid_ok ns cap' (prR ns.length l ns.length) (pkA ns.length l ns.length) (gpF l) hpk (ms.getD (0 + Int.toNat (i : Int)) mm0)
    unfold aF fB at hva
    rw [hrl] at hva
    have hen : entP ms (i + 1) = ad1 (entP ms i) (ms.getD (0 + Int.toNat (i : Int)) mm0) := by rw [hz]; rfl
    have hla : lastK ms (i + 1) = ((ms.getD (0 + Int.toNat (i : Int)) mm0).node, (ms.getD (0 + Int.toNat (i : Int)) mm0).port) := by rw [hz]; rfl
    have hok : okM ns (pkA ns.length l ns.length) ms i = (vlM ns (pkA ns.length l ns.length) (ms.getD (0 + Int.toNat (i : Int)) mm0) && decide (¬ ((ms.getD (0 + Int.toNat (i : Int)) mm0).node < (lastK ms i).1 ∨ ((ms.getD (0 + Int.toNat (i : Int)) mm0).node = (lastK ms i).1 ∧ (ms.getD (0 + Int.toNat (i : Int)) mm0).port ≤ (lastK ms i).2)))) := by rw [hz]; rfl
    by_cases hil : i < ms.length
    · cases hv : vlM ns (pkA ns.length l ns.length) (ms.getD (0 + Int.toNat (i : Int)) mm0)
      · rw [hv] at hva
        generalize lastK ms i = la at *
        generalize entP ms i = E at *
        (repeat' (first
    | (intro Q h; refine h ?_; clear h Q)
    | (refine bcase_mk (fun hb => ?_) (fun hb => ?_) <;> (try simp only [nS, nT, eq_self, reduceCtorEq] at hb) <;> (try (exfalso; (first | omega ); done)))
    | refine seq_go ?_
    | refine And.intro (by first | omega | ((try simp only [wS]); omega) | rfl | decide) ?_
    | ((first | apply call_detx [some 1, some 4, some 5] (hva) ); (focus ((iterate 2 (all_goals (repeat' (first | exact fam_same rfl rfl rfl | exact mapa_same plA_flat rfl (fun _ _ => rfl) | exact sub_map rfl | exact subL_nil | exact trivial | (intro Q h; refine h ?_; clear h Q) | refine And.intro ?_ ?_ | refine subL_cons ?_ ?_ | refine sub_agg ?_ | exact sub_sl rfl rfl rfl | exact sub_refl_val _ _ | exact row_same rfl rfl rfl )))))); (any_goals (first | (apply nodup_mk; rfl) )))
    | (apply ret_mk [some 0, some 1, some 2]; (focus (iterate 2 (all_goals (repeat' (first | exact subL_nil | exact trivial | (intro Q h; refine h ?_; clear h Q) | refine And.intro ?_ ?_ | refine subL_cons ?_ ?_ | refine sub_agg ?_ | refine sub_tup ?_ | exact sub_refl_val _ _ | exact row_same rfl rfl rfl ))))); (any_goals (apply okIx_mk; rfl)))
    ))
      · rw [hv] at hva hok
        rw [Bool.true_and] at hok
        by_cases hd : (ms.getD (0 + Int.toNat (i : Int)) mm0).node < (lastK ms i).1 ∨ ((ms.getD (0 + Int.toNat (i : Int)) mm0).node = (lastK ms i).1 ∧ (ms.getD (0 + Int.toNat (i : Int)) mm0).port ≤ (lastK ms i).2)
        · generalize lastK ms i = la at *
          generalize entP ms i = E at *
          (repeat' (first
    | (intro Q h; refine h ?_; clear h Q)
    | (refine bcase_mk (fun hb => ?_) (fun hb => ?_) <;> (try simp only [nS, nT, eq_self, reduceCtorEq] at hb) <;> (try (exfalso; (first | omega ); done)))
    | refine seq_go ?_
    | refine And.intro (by first | omega | ((try simp only [wS]); omega) | rfl | decide) ?_
    | ((first | apply call_detx [some 1, some 4, some 5] (hva) ); (focus ((iterate 2 (all_goals (repeat' (first | exact fam_same rfl rfl rfl | exact mapa_same plA_flat rfl (fun _ _ => rfl) | exact sub_map rfl | exact subL_nil | exact trivial | (intro Q h; refine h ?_; clear h Q) | refine And.intro ?_ ?_ | refine subL_cons ?_ ?_ | refine sub_agg ?_ | exact sub_sl rfl rfl rfl | exact sub_refl_val _ _ | exact row_same rfl rfl rfl )))))); (any_goals (first | (apply nodup_mk; rfl) )))
    | (apply ret_mk [some 0, some 1, some 2]; (focus (iterate 2 (all_goals (repeat' (first | exact subL_nil | exact trivial | (intro Q h; refine h ?_; clear h Q) | refine And.intro ?_ ?_ | refine subL_cons ?_ ?_ | refine sub_agg ?_ | refine sub_tup ?_ | exact sub_refl_val _ _ | exact row_same rfl rfl rfl ))))); (any_goals (apply okIx_mk; rfl)))
    ))
        · rw [decide_eq_true hd] at hok
          have hie' : ∀ y, y < i + 1 → okM ns (pkA ns.length l ns.length) ms y = true := fun y hy => by
            by_cases h : y = i
            · rw [h]; exact hok
            · exact hie y (by omega)
          generalize hE' : entP ms (i + 1) = E' at *
          generalize hl' : lastK ms (i + 1) = la' at *
          generalize lastK ms i = la at *
          generalize entP ms i = E at *
          (repeat' (first
    | (intro Q h; refine h ?_; clear h Q)
    | (refine bcase_mk (fun hb => ?_) (fun hb => ?_) <;> (try simp only [nS, nT, eq_self, reduceCtorEq] at hb) <;> (try (exfalso; (first | omega ); done)))
    | refine seq_go ?_
    | refine And.intro (by first | omega | ((try simp only [wS]); omega) | rfl | decide) ?_
    | ((first | apply call_detx [some 1, some 4, some 5] (hva) ); (focus ((iterate 2 (all_goals (repeat' (first | exact fam_same rfl rfl rfl | exact mapa_same plA_flat rfl (fun _ _ => rfl) | exact sub_map rfl | exact subL_nil | exact trivial | (intro Q h; refine h ?_; clear h Q) | refine And.intro ?_ ?_ | refine subL_cons ?_ ?_ | refine sub_agg ?_ | exact sub_sl rfl rfl rfl | exact sub_refl_val _ _ | exact row_same rfl rfl rfl )))))); (any_goals (first | (apply nodup_mk; rfl) )))
    | (apply next_sub (Subtype.mk (i + 1) ⟨by omega, hie'⟩); (focus (rw [hE', hl', hen, hla]; apply le_mk [some 0, some 1, some 2, some 3, some 4, some 5, some 6, some 7, some 8]; (focus (iterate 2 (all_goals (repeat' (first | exact fam_same rfl rfl rfl | exact mapa_same plA_flat rfl (fun _ _ => rfl) | refine en_upd ?_ | exact sub_map rfl | exact subL_nil | exact trivial | (intro Q h; refine h ?_; clear h Q) | refine And.intro ?_ ?_ | refine subL_cons ?_ ?_ | refine sub_agg ?_ | refine var_mk ?_ | exact sub_ptr rfl rfl | exact sub_sl rfl rfl rfl | exact sub_refl_val _ _ | exact row_same rfl rfl rfl | ((first | refine sub_int ?_ ); first | with_reducible rfl | omega | ((try simp only [wS]); omega) | rfl) ))))); (any_goals (apply okIx_mk; rfl)))); (all_goals (try (first | (simp only; omega)))))
    ))
    · exfalso
      have : okL ns (pkA ns.length l ns.length) ms = true := by
        unfold okL
        rw [List.all_eq_true]
        exact fun y hy => hie y (by have := List.mem_range.1 hy; omega)
      rw [hL] at this; cases this
  · have e : enE ns.length l ns rd ms = 0 := by unfold enE; rw [if_neg (by omega), if_neg (by omega), hL]; rfl
    refine ⟨fun h => absurd e h, fun _ => ?_⟩
    refine Runs.mk tabOK Tryd.call38 Tryd.func38 rfl Tryd.ntmps38 Tryd.results38 rfl ?_
    (repeat' (first
    | (intro Q h; refine h ?_; clear h Q)
    | (refine bcase_mk (fun hb => ?_) (fun hb => ?_) <;> (try simp only [nS, nT, eq_self, reduceCtorEq] at hb) <;> (try (exfalso; (first | omega ); done)))
    | refine seq_go ?_
    | ((first | apply call_detx [some 0, some 1] (hck) ); (focus ((iterate 2 (all_goals (repeat' (first | exact subL_nil | exact trivial | (intro Q h; refine h ?_; clear h Q) | refine And.intro ?_ ?_ | refine subL_cons ?_ ?_ | refine sub_agg ?_ | exact sub_sl rfl rfl rfl | exact sub_refl_val _ _ | exact row_same rfl rfl rfl )))))); (any_goals (first | (apply nodup_mk; rfl) )))
    | ((first | apply call_detx [some 0, some 1] (hsu) ); (focus ((iterate 2 (all_goals (repeat' (first | exact subL_nil | exact trivial | (intro Q h; refine h ?_; clear h Q) | refine And.intro ?_ ?_ | refine subL_cons ?_ ?_ | refine sub_agg ?_ | exact sub_sl rfl rfl rfl | exact sub_refl_val _ _ | exact row_same rfl rfl rfl )))))); (any_goals (first | (apply nodup_mk; rfl) )))
    ))
    refine loop_inv (σ := Nat) (fun x => x ≤ ms.length ∧ ∀ y, y < x → okM ns (pkA ns.length l ns.length) ms y = true) (fun x => ⟨[(4, .ptr 3 3 0 0), (8, .ptr 6 3 0 0), (9, .map 7), (10, .ptr 8 2 0 0), (34, .sl 2 14 0 ms.length cap2), (35, .val (.int .i64 ms.length)), (36, .val (.int .i64 x))], [gB l, ndB ns, meB false ms, .var [.val (.slice none 0 0), .val (.slice none 0 0), .val (.map none)], .fam true 58 3 1 ns.length (famF intC 0 (prR ns.length l ns.length)) none 0, peB (pkA ns.length l ns.length) (gpF l), .var [.sl 1 6 0 ns.length cap', .sl 4 1 0 ns.length none, .map 5], mB (entP ms x), .var [.val (.int .i64 (lastK ms x).1), .val (.int .i64 (lastK ms x).2)]]⟩) (fun x => ms.length - x) (0) ?_ ?_ ?_
    · exact ⟨by omega, fun y h => by omega⟩
    · (apply le_mk [some 0, some 1, some 2, some 5, some 6, some 7, some 8, some 9, some 10]; (focus (iterate 2 (all_goals (repeat' (first | exact fam_ren rfl rfl rfl | exact mapa_same plA_flat rfl (fun _ _ => rfl) | exact sub_map rfl | refine map_mk ?_ ?_ | exact subL_nil | exact trivial | (intro Q h; refine h ?_; clear h Q) | refine And.intro ?_ ?_ | refine subL_cons ?_ ?_ | refine var_mk ?_ | exact sub_ptr rfl rfl | exact sub_sl rfl rfl rfl | exact sub_refl_val _ _ | exact row_same rfl rfl rfl ))))); (any_goals (apply okIx_mk; rfl)))
      · rfl
      · intro x hx; cases hx
    rintro i ⟨hi, hie⟩
    have hz : 0 + Int.toNat (i : Int) = i := by omega
    have hva := valid_ok ns cap' (prR ns.length l ns.length) (pkA ns.length l ns.length) (gpF l) hpk (ms.getD (0 + Int.toNat (i : Int)) mm0)
    unfold aF fB at hva
    rw [hrl] at hva
    have hen : entP ms (i + 1) = ad1 (entP ms i) (ms.getD (0 + Int.toNat (i : Int)) mm0) := by rw [hz]; rfl
    have hla : lastK ms (i + 1) = ((ms.getD (0 + Int.toNat (i : Int)) mm0).node, (ms.getD (0 + Int.toNat (i : Int)) mm0).port) := by rw [hz]; rfl
    have hok : okM ns (pkA ns.length l ns.length) ms i = (vlM ns (pkA ns.length l ns.length) (ms.getD (0 + Int.toNat (i : Int)) mm0) && decide (¬ ((ms.getD (0 + Int.toNat (i : Int)) mm0).node < (lastK ms i).1 ∨ ((ms.getD (0 + Int.toNat (i : Int)) mm0).node = (lastK ms i).1 ∧ (ms.getD (0 + Int.toNat (i : Int)) mm0).port ≤ (lastK ms i).2)))) := by rw [hz]; rfl
    by_cases hil : i < ms.length
    · have hoi : okM ns (pkA ns.length l ns.length) ms i = true := by
        cases h : okM ns (pkA ns.length l ns.length) ms i
        · rw [okL_step hil h] at hL; cases hL
        · rfl
      have hie' : ∀ y, y < i + 1 → okM ns (pkA ns.length l ns.length) ms y = true := fun y hy => by
        by_cases h : y = i
        · rw [h]; exact hoi
        · exact hie y (by omega)
      rw [hoi] at hok
      have hok2 := hok.symm
      rw [Bool.and_eq_true, decide_eq_true_eq] at hok2
      obtain ⟨hv, hd⟩ := hok2
      rw [hv] at hva
      generalize hE' : entP ms (i + 1) = E' at *
      generalize hl' : lastK ms (i + 1) = la' at *
      generalize lastK ms i = la at *
      generalize entP ms i = E at *
      (repeat' (first
    | (intro Q h; refine h ?_; clear h Q)
    | (refine bcase_mk (fun hb => ?_) (fun hb => ?_) <;> (try simp only [nS, nT, eq_self, reduceCtorEq] at hb) <;> (try (exfalso; (first | omega ); done)))
    | refine seq_go ?_
    | refine And.intro (by first | omega | ((try simp only [wS]); omega) | rfl | decide) ?_
    | ((first | apply call_detx [some 1, some 4, some 5] (hva) ); (focus ((iterate 2 (all_goals (repeat' (first | exact fam_same rfl rfl rfl | exact mapa_same plA_flat rfl (fun _ _ => rfl) | exact sub_map rfl | exact subL_nil | exact trivial | (intro Q h; refine h ?_; clear h Q) | refine And.intro ?_ ?_ | refine subL_cons ?_ ?_ | refine sub_agg ?_ | exact sub_sl rfl rfl rfl | exact sub_refl_val _ _ | exact row_same rfl rfl rfl )))))); (any_goals (first | (apply nodup_mk; rfl) )))
    | (apply next_sub (Subtype.mk (i + 1) ⟨by omega, hie'⟩); (focus (rw [hE', hl', hen, hla]; apply le_mk [some 0, some 1, some 2, some 3, some 4, some 5, some 6, some 7, some 8]; (focus (iterate 2 (all_goals (repeat' (first | exact fam_same rfl rfl rfl | exact mapa_same plA_flat rfl (fun _ _ => rfl) | refine en_upd ?_ | exact sub_map rfl | exact subL_nil | exact trivial | (intro Q h; refine h ?_; clear h Q) | refine And.intro ?_ ?_ | refine subL_cons ?_ ?_ | refine sub_agg ?_ | refine var_mk ?_ | exact sub_ptr rfl rfl | exact sub_sl rfl rfl rfl | exact sub_refl_val _ _ | exact row_same rfl rfl rfl | ((first | refine sub_int ?_ ); first | with_reducible rfl | omega | ((try simp only [wS]); omega) | rfl) ))))); (any_goals (apply okIx_mk; rfl)))); (all_goals (try (first | (simp only; omega)))))
    ))
    · obtain rfl : i = ms.length := by omega
      (repeat' (first
    | (intro Q h; refine h ?_; clear h Q)
    | (refine bcase_mk (fun hb => ?_) (fun hb => ?_) <;> (try simp only [nS, nT, eq_self, reduceCtorEq] at hb) <;> (try (exfalso; (first | omega ); done)))
    | (apply ret_mk [some 0, some 1, some 2, some 4, some 5, some 7]; (focus (iterate 2 (all_goals (repeat' (first | exact fam_same rfl rfl rfl | exact mapa_same plA_flat rfl (fun _ _ => rfl) | exact mapa_same meA_flat rfl (fun _ _ => rfl) | exact sub_map rfl | exact subL_nil | exact trivial | (intro Q h; refine h ?_; clear h Q) | refine And.intro ?_ ?_ | refine subL_cons ?_ ?_ | refine sub_agg ?_ | refine sub_tup ?_ | exact sub_sl rfl rfl rfl | exact sub_refl_val _ _ | exact row_same rfl rfl rfl ))))); (any_goals (apply okIx_mk; rfl)))
    ))
end Go.Vx.L42
