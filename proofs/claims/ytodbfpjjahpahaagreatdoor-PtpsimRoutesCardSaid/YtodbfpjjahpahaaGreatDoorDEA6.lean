/- Lemmas of a small executor for the model, and contracts of functions, used for the law that this claim proves. No condition. -/
import Derived.Test.YtodbfpjjahpahaaGreatDoorDW3
import Derived.Test.YtodbfpjjahpahaaGreatDoorDEAA
set_option linter.unusedSimpArgs false
set_option linter.unusedVariables false
set_option maxRecDepth 100000
namespace Go.Vx.L58
open Go Go.Proofs
def Ex1 {α : Type} (p : α → Prop) (V : α → AV) (B : α → List Blk) : AV → List Blk → Prop := fun v b => ∃ a, p a ∧ v = V a ∧ b = B a
theorem ret_ex {α : Type} {p : α → Prop} {V : α → AV} {B : α → List Blk} {L : List Blk} {y : AV} {bs : Nat → Blk} {f : Nat} (a : α) (ha : p a) (xs : Ix) (h45 : sub xs.at (V a) y ∧ subB xs.at bs xs (B a)) (h : okIx L (B a) xs = true) :
  ∃ (V' : AV) (Bl : List Blk) (xs : Ix) (gs : List Gh), keepsIds L.length 0 xs = true ∧ (liveIx xs Bl).nodup = true ∧ rwOK L Bl ∧ sub xs.at V' y ∧ (ghK f gs bs [] fun acc => subB xs.at (updL bs acc) xs Bl) ∧ Ex1 p V B V' Bl := by
 obtain ⟨a1, b1, c1⟩ := okIx_ok h
 exact ⟨V a, B a, xs, [], a1, b1, c1, h45.1, h45.2, a, ha, rfl, rfl⟩
theorem call_ex {P : Program} {α : Type} {p : α → Prop} {V : α → AV} {B : α → List Blk} {g : FuncId} {args : List AV} {bs : Nat → Blk} {sl : Nat} {K : AV → List (Nat × Blk) → Nat → Prop} (xs : Ix) {args' : List AV} {L : List Blk} (hR : Runs P g args' L (Ex1 p V B))
  (h12 : subL xs.at args' args ∧ subB xs.at (look bs) xs L) (h3 : ndOK bs xs L = true) (hK : ∀ a, p a → K ((V a).ren (rb xs sl)) (upsOf xs sl xs L (B a) 0 ++ killsOf bs sl xs L) (upF sl L (B a))) : callK P g args bs sl K :=
 ⟨[], xs, args', L, _, hR, h12.1, h12.2, h3, by rintro _ _ ⟨a, ha, rfl, rfl⟩; rw [List.append_nil]; exact hK a ha⟩
theorem k2_all {l : List (List Int)} {S : List (List Int)} {Y : List Int → Prop} (h2 : ∀ k ∈ l, ∃ a p : Int, k = [a, p]) (h : ∀ a p, [a, p] ∈ l → [a, p] ∉ S → Y [a, p]) : ∀ k, k ∈ l → k ∉ S → Y k := fun k hk hS => by
 obtain ⟨a, p, rfl⟩ := h2 k hk
 exact h a p hk hS
theorem subk_len : ∀ (l m : List (List Int)), l.Nodup → (∀ k ∈ l, k ∈ m) → l.length ≤ m.length
 | [], m, _, _ => by simp
 | a :: r, m, h, hs => by
  simp only [List.nodup_cons] at h
  have ha := hs a (by simp)
  have := subk_len r (m.erase a) h.2 fun k hk => by
   have : k ≠ a := fun e => h.1 (e ▸ hk)
   exact (List.mem_erase_of_ne this).2 (hs k (by simp [hk]))
  rw [List.length_erase_of_mem ha] at this
  have : 0 < m.length := List.length_pos_of_mem ha
  simp only [List.length_cons]; omega
def older (m : Mm) : Mm := { m with age := m.age + 1 }
def agS (s : MS) (V : List (List Int)) : MS := ⟨V.filter (fun k => decide ((s.g k).age + 1 < 3)), fun k => older (s.g k)⟩
def wrS (s : MS) (t : Int × Int) (d : DS) : MS := ⟨addKey s.ks [t.1, t.2], fun k => bif k == [t.1, t.2] then ⟨t.1, t.2, 0, d⟩ else s.g k⟩
theorem wr_upd {ρ : Nat → Option Nat} {nx : MS} {t : Int × Int} {d : DS} {v : AV} (hv : sub ρ (meA ⟨t.1, t.2, 0, d⟩) v) : BSub ρ (mB (wrS nx t d)) (.map (some 2) (addKey nx.ks [t.1, t.2]) (updK (fun k => meA (nx.g k)) [t.1, t.2] v)) := by
 refine mapa_upd meA_flat rfl ?_ fun x _ hne => ?_
 ·show sub ρ (meA ((wrS nx t d).g [t.1, t.2])) v
  have : (wrS nx t d).g [t.1, t.2] = ⟨t.1, t.2, 0, d⟩ := by simp [wrS]
  rw [this]; exact hv
 ·have : (wrS nx t d).g x = nx.g x := by
   have e : (x == [t.1, t.2]) = false := by simpa using hne
   simp only [wrS, e, cond_false]
  show meA (nx.g x) = meA ((wrS nx t d).g x)
  rw [this]
theorem ag_yes {s : MS} {V : List (List Int)} {n : List Int} (hn : n ∉ V) (ha : (s.g n).age + 1 < 3) : (agS s (V ++ [n])).ks = addKey (agS s V).ks n := by
 have h1 : (agS s V).ks.contains n = false := by
  rw [Bool.eq_false_iff]; intro h
  rw [List.contains_iff_mem] at h
  exact hn (List.mem_filter.1 h).1
 unfold addKey
 rw [h1, cond_false]
 show (V ++ [n]).filter _ = V.filter _ ++ [n]
 rw [List.filter_append]
 simp [ha]
theorem ag_no {s : MS} {V : List (List Int)} {n : List Int} (ha : ¬ (s.g n).age + 1 < 3) : agS s (V ++ [n]) = agS s V := by
 unfold agS
 rw [List.filter_append]
 simp [ha]
theorem ag_upd {ρ : Nat → Option Nat} {s : MS} {V : List (List Int)} {n : List Int} {v : AV} (hn : n ∉ V) (ha : (s.g n).age + 1 < 3) (hv : sub ρ (meA (older (s.g n))) v) : BSub ρ (mB (agS s (V ++ [n]))) (.map (some 2) (addKey (agS s V).ks n) (updK (fun k => meA ((agS s V).g k)) n v)) :=
 mapa_upd meA_flat (ag_yes hn ha).symm hv fun _ _ _ => rfl
def sdP (ns : List Nd) (gp : List Int → Int × Int) (s : MS) (x : Nat) (nx : MS) (p : Int) : MS :=
 if ann (codD (owD (ns.getD x nd0)) (hrX s x 8) (p - 1).toNat) = true then
  (if (sntF (ns.getD x nd0).id (ns.getD (gp [(x : Int), p]).1.toNat nd0).id p (gp [(x : Int), p]).2 (owD (ns.getD x nd0)) (folD (owD (ns.getD x nd0)) (hrX s x 8))).2 = true then
   wrS nx (gp [(x : Int), p]) (sntF (ns.getD x nd0).id (ns.getD (gp [(x : Int), p]).1.toNat nd0).id p (gp [(x : Int), p]).2 (owD (ns.getD x nd0)) (folD (owD (ns.getD x nd0)) (hrX s x 8))).1 else nx)
 else nx
def sdN (ns : List Nd) (rs : List (List Int)) (gp : List Int → Int × Int) (s : MS) (nx : MS) (x : Nat) : MS := (rs.getD x []).foldl (sdP ns gp s x) nx
def sdA (ns : List Nd) (rs : List (List Int)) (gp : List Int → Int × Int) (s nx : MS) : Nat → MS
 | 0 => nx
 | x + 1 => sdN ns rs gp s (sdA ns rs gp s nx x) x
structure FOK (ns : List Nd) (rs pk : List (List Int)) (gp : List Int → Int × Int) : Prop where
 n1 : 1 ≤ ns.length
 n24 : ns.length ≤ 24
 rl : rs.length = ns.length
 row : ∀ x, x < ns.length → (rs.getD x []).length ≤ 8
 prt : ∀ x p, p ∈ rs.getD x [] → (1 ≤ p ∧ p ≤ 8) ∧ [(x : Int), p] ∈ pk ∧ (0 ≤ (gp [(x : Int), p]).1 ∧ (gp [(x : Int), p]).1 < ns.length) ∧ (1 ≤ (gp [(x : Int), p]).2 ∧ (gp [(x : Int), p]).2 ≤ 8)
 pk : ∀ k ∈ pk, ∃ (x : Nat) (p : Int), k = [(x : Int), p] ∧ x < ns.length ∧ p ∈ rs.getD x []
 wf : ∀ x, wfD (owD (ns.getD x nd0))
 cl : ∀ x, x < ns.length → 127 < (ns.getD x nd0).cl
structure SOK (ns : List Nd) (pk : List (List Int)) (s : MS) : Prop where
 key : ∀ k ∈ s.ks, k = [(s.g k).node, (s.g k).port]
 vl : ∀ k ∈ s.ks, vlM ns pk (s.g k) = true
 wf : ∀ k ∈ s.ks, wfD (s.g k).set
theorem wfD_def : wfD default := by
 refine ⟨?_, ?_, ?_, ?_, ?_, ?_, ?_, ?_, ?_, ?_, ?_⟩ <;> first | (show inI 0; unfold inI; omega) | (show inU 0; unfold inU; omega)
theorem vlM_parts {ns : List Nd} {pk : List (List Int)} {m : Mm} (h : vlM ns pk m = true) : [m.node, m.port] ∈ pk ∧ (0 ≤ m.age ∧ m.age < 3) ∧ (0 ≤ m.set.st ∧ m.set.st < 32) ∧ [m.set.p1, m.set.cl, m.set.ac, m.set.va, m.set.p2, m.set.sp, m.set.rp].all wrd = true ∧ m.set.re = (ns.getD m.node.toNat nd0).id ∧ m.set.rp = m.port := by
 unfold vlM at h
 rw [decide_eq_true_eq] at h
 obtain ⟨h1, h2⟩ := h
 exact ⟨by simpa using h1, h2⟩
theorem hrX_get (s : MS) (n : Int) (x i : Nat) : (hrX s n x).getD i none = if i < 8 ∧ i < x ∧ s.ks.contains [n, ((i + 1 : Nat) : Int)] = true then some (s.g [n, ((i + 1 : Nat) : Int)]).set else none := by
 by_cases h : i < 8
 ·simp only [hrX, List.getD_eq_getElem?_getD, List.getElem?_map, List.getElem?_range, h, if_true, Option.map_some, Option.getD_some, true_and]
 ·rw [List.getD_eq_getElem?_getD, List.getElem?_eq_none (by rw [hrX_len]; omega), if_neg (fun e => h e.1)]; rfl
theorem hrX_wf {ns : List Nd} {pk : List (List Int)} {s : MS} (hS : SOK ns pk s) (n : Int) (x : Nat) : wfP (hrX s n x) := fun i => by
 unfold dsAt
 rw [hrX_get]
 split
 ·rename_i h
  have hm : [n, ((i + 1 : Nat) : Int)] ∈ s.ks := by simpa using h.2.2
  have := (vlM_parts (hS.vl _ hm)).2.2.1
  exact ⟨hS.wf _ hm, this.1, by show (s.g _).set.st ≤ 1000000; omega⟩
 ·exact ⟨wfD_def, by decide, by decide⟩
theorem fol_st {ns : List Nd} {pk : List (List Int)} {s : MS} (hS : SOK ns pk s) (o : DS) (ho : o.st = 0) (n : Int) : 0 ≤ (folD o (hrX s n 8)).st ∧ (folD o (hrX s n 8)).st < 32 := by
 unfold folD
 split
 ·omega
 ·unfold dsAt
  rw [hrX_get]
  split
  ·rename_i h
   have hm : [n, (((bstL (hrX s n 8)).toNat + 1 : Nat) : Int)] ∈ s.ks := by simpa using h.2.2
   exact (vlM_parts (hS.vl _ hm)).2.2.1
  ·decide
set_option maxHeartbeats 4000000 in
theorem round_ok (ns : List Nd) (cap : Option Nat) (rs pk : List (List Int)) (gp : List Int → Int × Int) (hF : FOK ns rs pk gp) (s : MS) (hS : SOK ns pk s) :
  Runs Tryz.prog 81 [aF ns cap rs, .map 3] [ndB ns, nR rs.length rs, peB pk gp, mB s] (Ex1 (fun W => W.Nodup ∧ ∀ k, k ∈ W ↔ k ∈ s.ks) (fun _ => .map 4) (fun W => [ndB ns, nR rs.length rs, peB pk gp, mB s, mB (sdA ns rs gp s (agS s W) ns.length)])) := by
 have hk2 : ∀ k ∈ s.ks, ∃ a p : Int, k = [a, p] := fun k hk => ⟨_, _, hS.key k hk⟩
 have hage : ∀ k ∈ s.ks, 0 ≤ (s.g k).age ∧ (s.g k).age < 3 := fun k hk => (vlM_parts (hS.vl k hk)).2.1
 refine Runs.mk tabOK Tryz.call81 Tryz.func81 rfl Tryz.ntmps81 Tryz.results81 rfl ?_
 (repeat' (first
  | (intro Q h; refine h ?_; clear h Q)
  | refine rng_mk (fun es clock => ?_)
  | refine seq_go ?_
  ))
 refine loop_inv (σ := List (List Int)) (fun x => x.Nodup ∧ (∀ k ∈ x, k ∈ s.ks) ∧ x.length ≤ s.ks.length) (fun x => ⟨[(1, .map 3), (2, .ptr 4 3 0 0), (5, .map 5), (22, .ptr 6 1 0 0)], [ndB ns, nR rs.length rs, peB pk gp, .mapg (some 2) s.ks (fun k => meA (s.g k)) es clock, .var [.sl 0 6 0 ns.length cap, .sl 1 1 0 rs.length none, .map 2], mB (agS s x), .iter 3 (some 2) es clock x none]⟩) (fun x => s.ks.length - x.length) ([]) ?_ ?_ ?_
 ·simp
 ·(apply le_mk [some 0, some 1, some 2, some 3, some 4, some 5, some 6]; (focus (iterate 2 (all_goals (repeat' (first | exact fam_same rfl rfl rfl | exact mapa_same plA_flat rfl (fun _ _ => rfl) | exact mapga_same meA_flat | exact iter_same rfl rfl | exact sub_map rfl | refine map_mk ?_ ?_ | exact subL_nil | exact trivial | (intro Q h; refine h ?_; clear h Q) | refine And.intro ?_ ?_ | refine subL_cons ?_ ?_ | refine var_mk ?_ | exact sub_ptr rfl rfl | exact sub_sl rfl rfl rfl | exact row_same rfl rfl rfl ))))); any_goals (apply okIx_mk; rfl))
  ·rfl
  ·intro x hx; cases hx
 rintro V ⟨hV1, hV2, hV3⟩
 have hw : ∀ k ∈ s.ks, IntKind.i64.wrap ((s.g k).age + 1) = (s.g k).age + 1 := fun k hk => by
  have := hage k hk; exact cwrap (by omega) (by omega)
 have hinv : ∀ n, n ∈ s.ks → n ∉ V → ((V ++ [n]).Nodup ∧ (∀ k ∈ V ++ [n], k ∈ s.ks) ∧ (V ++ [n]).length ≤ s.ks.length) ∧ s.ks.length - (V ++ [n]).length < s.ks.length - V.length := by
  intro n h1 h2
  have h3 : (V ++ [n]).Nodup := by
   rw [List.nodup_append]; exact ⟨hV1, by simp, by rintro a ha b hb rfl; simp only [List.mem_singleton] at hb; subst hb; exact h2 ha⟩
  have h4 : ∀ k ∈ V ++ [n], k ∈ s.ks := fun k hk => by
   rcases List.mem_append.1 hk with hk | hk
   ·exact hV2 k hk
   ·simp only [List.mem_singleton] at hk; subst hk; exact h1
  have h5 := subk_len _ _ h3 h4
  refine ⟨⟨h3, h4, h5⟩, ?_⟩
  rw [List.length_append] at h5 ⊢
  simp only [List.length_cons, List.length_nil] at h5 ⊢
  omega
 (repeat' (first
  | (intro Q h; refine h ?_; clear h Q)
  | (refine bcase_mk (fun hb => ?_) (fun hb => ?_) <;> (try simp only [nS, nT, eq_self, reduceCtorEq] at hb) <;> (try (exfalso; fail; done)))
  | refine nxt_mk rfl rfl rfl (fun hend => ?_) (k2_all hk2 (fun a p hn hkS => ?_))
  | refine ent_mk rfl rfl rfl ?_
  ))
 rotate_left
 ·have hw1 := hw _ hn
  obtain ⟨hi1, hi2⟩ := hinv _ hn hkS
  (apply next_sub (Subtype.mk (V ++ [[a, p]]) hi1); (focus (skip; apply le_mk [some 0, some 1, some 2, some 3, some 4, some 5, some 6]; (focus (iterate 2 (all_goals (repeat' (first | exact fam_same rfl rfl rfl | exact mapa_same plA_flat rfl (fun _ _ => rfl) | exact mapga_same meA_flat | exact iter_same rfl rfl | refine ag_upd (by assumption) (by omega) ?_ | exact sub_map rfl | exact subL_nil | exact trivial | (intro Q h; refine h ?_; clear h Q) | refine And.intro ?_ ?_ | refine subL_cons ?_ ?_ | refine sub_agg ?_ | refine var_mk ?_ | exact sub_ptr rfl rfl | exact sub_sl rfl rfl rfl | exact sub_refl_val _ _ | exact row_same rfl rfl rfl | (refine And.left (b := True) ⟨?_, True.intro⟩; assumption) | refine sub_int ?_ ))))); any_goals (apply okIx_mk; rfl))); (all_goals (try (omega))))
  all_goals first
   | exact hi2
   | fail
 ·have hw1 := hw _ hn
  obtain ⟨hi1, hi2⟩ := hinv _ hn hkS
  have hno : agS s (V ++ [[a, p]]) = agS s V := ag_no (by omega)
  (apply next_sub (Subtype.mk (V ++ [[a, p]]) hi1); (focus (rw [hno]; apply le_mk [some 0, some 1, some 2, some 3, some 4, some 5, some 6]; (focus (iterate 2 (all_goals (repeat' (first | exact fam_same rfl rfl rfl | exact mapa_same plA_flat rfl (fun _ _ => rfl) | exact mapa_same meA_flat rfl (fun _ _ => rfl) | exact mapga_same meA_flat | exact iter_same rfl rfl | exact sub_map rfl | exact subL_nil | exact trivial | (intro Q h; refine h ?_; clear h Q) | refine And.intro ?_ ?_ | refine subL_cons ?_ ?_ | refine var_mk ?_ | exact sub_ptr rfl rfl | exact sub_sl rfl rfl rfl | exact row_same rfl rfl rfl ))))); any_goals (apply okIx_mk; rfl))); (all_goals (try (omega))))
  all_goals first
   | exact hi2
   | fail
 have hVk : ∀ k, k ∈ V ↔ k ∈ s.ks := fun k => ⟨hV2 k, hend k⟩
 clear hinv hw
 generalize hA0 : agS s V = a0 at *
 have hrl := hF.rl
 have hn24 := hF.n24
 (repeat' (first
  | (intro Q h; refine h ?_; clear h Q)
  | refine seq_go ?_
  ))
 refine loop_inv (σ := Nat) (fun x => x ≤ ns.length) (fun x => ⟨[(1, .map 3), (2, .ptr 4 3 0 0), (5, .map 5), (40, .val (.int .i64 ns.length)), (41, .val (.int .i64 x))], [ndB ns, nR rs.length rs, peB pk gp, mB s, .var [.sl 0 6 0 ns.length cap, .sl 1 1 0 rs.length none, .map 2], mB (sdA ns rs gp s a0 x)]⟩) (fun x => ns.length - x) (0) ?_ ?_ ?_
 ·omega
 ·(apply le_mk [some 0, some 1, some 2, some 3, some 4, some 5]; (focus (iterate 2 (all_goals (repeat' (first | exact fam_same rfl rfl rfl | exact mapa_same plA_flat rfl (fun _ _ => rfl) | exact mapa_same meA_flat rfl (fun _ _ => rfl) | exact sub_map rfl | exact subL_nil | exact trivial | (intro Q h; refine h ?_; clear h Q) | refine And.intro ?_ ?_ | refine subL_cons ?_ ?_ | refine var_mk ?_ | exact sub_ptr rfl rfl | exact sub_sl rfl rfl rfl | exact sub_refl_val _ _ | exact row_same rfl rfl rfl ))))); any_goals (apply okIx_mk; rfl))
 rintro z hz
 by_cases hzl : z < ns.length
 ·have hz0 : 0 + Int.toNat (z : Int) = z := by omega
  have hown := own_ok ns cap rs pk gp z hzl
  have hhe := heard_ok s z
  have hHl := hrX_len s z 8
  have hde := decide_ok (owD (ns.getD z nd0)) (hrX s z 8) none (by omega) (hrX_wf hS z 8) (hF.wf z) (hF.cl z hzl)
  have hma := master_ok (owD (ns.getD z nd0)) (hrX s z 8) none (by omega) (hrX_wf hS z 8) (hF.wf z) (hF.cl z hzl)
  have hst := fol_st hS (owD (ns.getD z nd0)) rfl z
  have hsA : sdA ns rs gp s a0 (z + 1) = (rs.getD z []).foldl (sdP ns gp s z) (sdA ns rs gp s a0 z) := rfl
  have hprt := hF.prt z
  have hrow := hF.row z hzl
  have hsP : ∀ (nx : MS) (p : Int), sdP ns gp s z nx p = if ann (codD (owD (ns.getD z nd0)) (hrX s z 8) (p - 1).toNat) = true then
    (if (sntF (ns.getD z nd0).id (ns.getD (gp [(z : Int), p]).1.toNat nd0).id p (gp [(z : Int), p]).2 (owD (ns.getD z nd0)) (folD (owD (ns.getD z nd0)) (hrX s z 8))).2 = true then
     wrS nx (gp [(z : Int), p]) (sntF (ns.getD z nd0).id (ns.getD (gp [(z : Int), p]).1.toNat nd0).id p (gp [(z : Int), p]).2 (owD (ns.getD z nd0)) (folD (owD (ns.getD z nd0)) (hrX s z 8))).1 else nx)
    else nx := fun _ _ => rfl
  have hcl2 : (codL (owD (ns.getD z nd0)) (hrX s z 8)).length = 8 := by rw [codP_len]; exact hHl
  have hcg : ∀ y, y < 8 → (codL (owD (ns.getD z nd0)) (hrX s z 8)).getD y 0 = codD (owD (ns.getD z nd0)) (hrX s z 8) y := fun y hy => codP_get _ _ _ _ (by rw [hHl]; exact hy)
  generalize hsA0 : sdA ns rs gp s a0 (z + 1) = nx' at *
  generalize sdA ns rs gp s a0 z = nx at *
  generalize hO : owD (ns.getD z nd0) = o at *
  generalize hrX s z 8 = H at *
  generalize codL o H = C at *
  generalize folD o H = f at *
  generalize hW : rs.getD z [] = W at *
  have hW' : (famF intC 0 rs (0 + Int.toNat (z : Int))).1 = W.length := by rw [hz0, famF_fst, hW]
  have hW2 : (famF intC 0 rs z).1 = W.length := by rw [famF_fst, hW]
  (repeat' (first
  | (intro Q h; refine h ?_; clear h Q)
  | (refine bcase_mk (fun hb => ?_) (fun hb => ?_) <;> (try simp only [nS, nT, eq_self, reduceCtorEq] at hb) <;> (try (exfalso; omega)))
  | refine seq_go ?_
  | refine And.intro (by first | omega | ((try simp only [wS]); omega) | rfl | decide) ?_
  | ((first | apply call_detx [some 0, some 1, some 2] (hown) ); (focus ((iterate 2 (all_goals (repeat' (first | exact fam_same rfl rfl rfl | exact mapa_same plA_flat rfl (fun _ _ => rfl) | exact sub_map rfl | exact subL_nil | exact trivial | (intro Q h; refine h ?_; clear h Q) | refine And.intro ?_ ?_ | refine subL_cons ?_ ?_ | refine sub_agg ?_ | exact sub_sl rfl rfl rfl | exact sub_refl_val _ _ | exact row_same rfl rfl rfl )))))); any_goals (apply nodup_mk; rfl))
  | ((first | apply call1 (hhe) ); (focus (iterate 2 (all_goals (repeat' (first | exact mapa_same meA_flat rfl (fun _ _ => rfl) | exact sub_map rfl | exact subL_nil | exact trivial | (intro Q h; refine h ?_; clear h Q) | refine And.intro ?_ ?_ | refine subL_cons ?_ ?_ | exact sub_refl_val _ _ ))))); (try (any_goals fail)))
  | ((first | apply call1 (hde) ); exact AS; (try (any_goals fail)))
  | ((first | apply call1 (hma) ); exact AS; (try (any_goals fail)))
  ))
  refine loop_inv (σ := Nat) (fun x => x ≤ W.length) (fun x => ⟨[(1, .map 3), (2, .ptr 4 3 0 0), (5, .map 5), (8, .val (.int .i64 z)), (9, .ptr 6 11 0 0), (11, .sl 7 1 0 C.length none), (13, .ptr 8 11 0 0), (40, .val (.int .i64 ns.length)), (41, .val (.int .i64 z)), (65, .sl 9 1 0 W.length none), (66, .val (.int .i64 W.length)), (67, .val (.int .i64 x))], [ndB ns, nR rs.length rs, peB pk gp, mB s, .var [.sl 0 6 0 ns.length cap, .sl 1 1 0 rs.length none, .map 2], mB ((W.take x).foldl (sdP ns gp s z) nx), .var (dC o), iB true C, .var (dC f), .row 1 z]⟩) (fun x => W.length - x) (0) ?_ ?_ ?_
  ·omega
  ·(apply le_mk [some 0, some 1, some 2, some 3, some 4, some 5, some 7, some 8, some 9, some 10]; (focus (iterate 2 (all_goals (repeat' (first | exact fam_same rfl rfl rfl | (refine row_nm rfl ?_) | exact mapa_same plA_flat rfl (fun _ _ => rfl) | exact mapa_same meA_flat rfl (fun _ _ => rfl) | exact sub_map rfl | exact subL_nil | exact trivial | (intro Q h; refine h ?_; clear h Q) | refine And.intro ?_ ?_ | refine subL_cons ?_ ?_ | refine var_mk ?_ | exact sub_ptr rfl rfl | exact sub_sl rfl rfl rfl | exact sub_refl_val _ _ | exact row_same rfl rfl rfl | exact row_ren rfl rfl rfl | ((first | refine sub_int ?_ | refine sub_sl rfl rfl ?_ | show (_ : Nat) = _); first | with_reducible rfl | omega | ((try simp only [wS]); omega) | rfl) ))))); any_goals (apply okIx_mk; rfl))
  rintro j hj
  by_cases hjW : j < W.length
  ·have hzj : 0 + Int.toNat (j : Int) = j := by omega
   have hS2 := foldl_take (sdP ns gp s z) nx W j 0 hjW
   have hP := hprt _ (getD_mem W j 0 hjW)
   rw [hsP] at hS2
   have hPe : (rs.getD z []).getD (0 + Int.toNat (j : Int)) 0 = W.getD j 0 := by rw [hW, hzj]
   rw [← hPe] at hS2 hP
   generalize hq' : (W.take (j + 1)).foldl (sdP ns gp s z) nx = q' at *
   generalize (W.take j).foldl (sdP ns gp s z) nx = q at *
   obtain ⟨⟨p1, p8⟩, hpk, ⟨t0, t1⟩, t2⟩ := hP
   have hwr : IntKind.i64.wrap ((rs.getD z []).getD (0 + Int.toNat (j : Int)) 0 - 1) = (rs.getD z []).getD (0 + Int.toNat (j : Int)) 0 - 1 := cwrap (by omega) (by omega)
   have hcd : C.getD (0 + Int.toNat (IntKind.i64.wrap ((rs.getD z []).getD (0 + Int.toNat (j : Int)) 0 - 1))) 0 = codD o H ((rs.getD z []).getD (0 + Int.toNat (j : Int)) 0 - 1).toNat := by rw [hwr, Nat.zero_add]; exact hcg _ (by omega)
   have hann := ann_ok (C.getD (0 + Int.toNat (IntKind.i64.wrap ((rs.getD z []).getD (0 + Int.toNat (j : Int)) 0 - 1))) 0)
   rw [hcd] at hann
   cases hA : ann (codD o H ((rs.getD z []).getD (0 + Int.toNat (j : Int)) 0 - 1).toNat)
   ·rw [hA] at hann hS2
    rw [if_neg (by simp)] at hS2
    rw [← hcd] at hann
    (repeat' (first
  | (intro Q h; refine h ?_; clear h Q)
  | (refine bcase_mk (fun hb => ?_) (fun hb => ?_) <;> (try simp only [nS, nT, eq_self, reduceCtorEq] at hb) <;> (try (exfalso; omega)))
  | refine seq_go ?_
  | refine And.intro (by first | omega | ((try simp only [wS]); omega) | rfl | decide) ?_
  | ((first | apply call0 (hann) ); exact AS)
  | (apply next_sub (Subtype.mk (j + 1) (by first | omega | (simp only; omega))); (focus (rw [hq', hS2]; apply le_mk [some 0, some 1, some 2, some 3, some 4, some 5, some 6, some 7, some 8, some 9]; (focus (iterate 2 (all_goals (repeat' (first | exact fam_same rfl rfl rfl | exact row_nm rfl rfl | exact mapa_same plA_flat rfl (fun _ _ => rfl) | exact mapa_same meA_flat rfl (fun _ _ => rfl) | exact sub_map rfl | exact subL_nil | exact trivial | (intro Q h; refine h ?_; clear h Q) | refine And.intro ?_ ?_ | refine subL_cons ?_ ?_ | refine var_mk ?_ | exact sub_ptr rfl rfl | exact sub_sl rfl rfl rfl | exact sub_refl_val _ _ | exact row_same rfl rfl rfl | ((refine sub_int ?_); first | with_reducible rfl | omega | ((try simp only [wS]); omega) | rfl) ))))); any_goals (apply okIx_mk; rfl))); (all_goals (try (first | (simp only; omega)))))
  ))
   ·rw [hA] at hann hS2
    rw [if_pos rfl] at hS2
    rw [← hcd] at hann
    generalize ht : gp [(z : Int), (rs.getD z []).getD (0 + Int.toNat (j : Int)) 0] = t at *
    obtain ⟨u, v⟩ := t
    have hse := sent_ok ns cap rs pk gp z u ((rs.getD z []).getD (0 + Int.toNat (j : Int)) 0) v ⟨by omega, by omega⟩ ⟨t0, t1⟩ o f hst
    rw [show ((z : Nat) : Int).toNat = z from Int.toNat_natCast z] at hse
    have hh : pk.contains [(z : Int), (rs.getD z []).getD (0 + Int.toNat (j : Int)) 0] = true := by simpa using hpk
    generalize sntF (ns.getD z nd0).id (ns.getD u.toNat nd0).id ((rs.getD z []).getD (0 + Int.toNat (j : Int)) 0) v o f = r at *
    obtain ⟨D, b⟩ := r
    cases b
    ·rw [if_neg (by simp)] at hS2
     (repeat' (first
  | (intro Q h; refine h ?_; clear h Q)
  | (with_reducible refine bcase_false ?_)
  | (refine bcase_mk (fun hb => ?_) (fun hb => ?_) <;> (try simp only [nS, nT, eq_self, reduceCtorEq] at hb) <;> (try (exfalso; (first | omega | (rw [hh] at hb; cases hb)); done)))
  | refine seq_go ?_
  | refine And.intro (by first | omega | ((try simp only [wS]); omega) | rfl | decide) ?_
  | ((first | apply call0 (hann) ); exact AS)
  | (rw [ht])
  | ((first | apply call_detx [some 0, some 1, some 2] (hse) ); (focus ((iterate 2 (all_goals (repeat' (first | exact fam_same rfl rfl rfl | exact mapa_same plA_flat rfl (fun _ _ => rfl) | exact sub_map rfl | exact subL_nil | exact trivial | (intro Q h; refine h ?_; clear h Q) | refine And.intro ?_ ?_ | refine subL_cons ?_ ?_ | refine sub_agg ?_ | exact sub_sl rfl rfl rfl | exact sub_refl_val _ _ | exact row_same rfl rfl rfl )))))); any_goals (apply nodup_mk; rfl))
  | (apply next_sub (Subtype.mk (j + 1) (by first | omega | (simp only; omega))); (focus (rw [hq', hS2]; apply le_mk [some 0, some 1, some 2, some 3, some 4, some 5, some 6, some 7, some 8, some 9]; (focus (iterate 2 (all_goals (repeat' (first | exact fam_same rfl rfl rfl | exact row_nm rfl rfl | exact mapa_same plA_flat rfl (fun _ _ => rfl) | exact mapa_same meA_flat rfl (fun _ _ => rfl) | exact sub_map rfl | exact subL_nil | exact trivial | (intro Q h; refine h ?_; clear h Q) | refine And.intro ?_ ?_ | refine subL_cons ?_ ?_ | refine var_mk ?_ | exact sub_ptr rfl rfl | exact sub_sl rfl rfl rfl | exact sub_refl_val _ _ | exact row_same rfl rfl rfl | ((refine sub_int ?_); first | with_reducible rfl | omega | ((try simp only [wS]); omega) | rfl) ))))); any_goals (apply okIx_mk; rfl))); (all_goals (try (first | (simp only; omega)))))
  ))
    ·rw [if_pos rfl] at hS2
     (repeat' (first
  | (intro Q h; refine h ?_; clear h Q)
  | (with_reducible refine bcase_true ?_)
  | (refine bcase_mk (fun hb => ?_) (fun hb => ?_) <;> (try simp only [nS, nT, eq_self, reduceCtorEq] at hb) <;> (try (exfalso; (first | omega | (rw [hh] at hb; cases hb)); done)))
  | refine seq_go ?_
  | refine And.intro (by first | omega | ((try simp only [wS]); omega) | rfl | decide) ?_
  | ((first | apply call0 (hann) ); exact AS)
  | (rw [ht])
  | ((first | apply call_detx [some 0, some 1, some 2] (hse) ); (focus ((iterate 2 (all_goals (repeat' (first | exact fam_same rfl rfl rfl | exact mapa_same plA_flat rfl (fun _ _ => rfl) | exact sub_map rfl | exact subL_nil | exact trivial | (intro Q h; refine h ?_; clear h Q) | refine And.intro ?_ ?_ | refine subL_cons ?_ ?_ | refine sub_agg ?_ | exact sub_sl rfl rfl rfl | exact sub_refl_val _ _ | exact row_same rfl rfl rfl )))))); any_goals (apply nodup_mk; rfl))
  | (apply next_sub (Subtype.mk (j + 1) (by first | omega | (simp only; omega))); (focus (rw [hq', hS2]; apply le_mk [some 0, some 1, some 2, some 3, some 4, some 5, some 6, some 7, some 8, some 9]; (focus (iterate 2 (all_goals (repeat' (first | exact fam_same rfl rfl rfl | exact row_nm rfl rfl | exact mapa_same plA_flat rfl (fun _ _ => rfl) | exact mapa_same meA_flat rfl (fun _ _ => rfl) | refine wr_upd ?_ | exact sub_map rfl | exact subL_nil | exact trivial | (intro Q h; refine h ?_; clear h Q) | refine And.intro ?_ ?_ | refine subL_cons ?_ ?_ | refine sub_agg ?_ | refine var_mk ?_ | exact sub_ptr rfl rfl | exact sub_sl rfl rfl rfl | exact sub_refl_val _ _ | exact row_same rfl rfl rfl | ((refine sub_int ?_); first | with_reducible rfl | omega | ((try simp only [wS]); omega) | rfl) ))))); any_goals (apply okIx_mk; rfl))); (all_goals (try (first | (simp only; omega)))))
  ))
  ·have hjj : W.length = j := by omega
   subst hjj
   rw [List.take_length]
   have hnx : nx' = W.foldl (sdP ns gp s z) nx := hsA
   rw [← hnx]
   have hsz : sdA ns rs gp s a0 (z + 1) = nx' := by rw [hsA0]
   (repeat' (first
  | (intro Q h; refine h ?_; clear h Q)
  | (refine bcase_mk (fun hb => ?_) (fun hb => ?_) <;> (try simp only [nS, nT, eq_self, reduceCtorEq] at hb) <;> (try (exfalso; omega)))
  | (apply next_sub (Subtype.mk (z + 1) (by first | omega | (simp only; omega))); (focus (rw [hsz]; apply le_mk [some 0, some 1, some 2, some 3, some 4, some 5]; (focus (iterate 2 (all_goals (repeat' (first | exact fam_same rfl rfl rfl | exact mapa_same plA_flat rfl (fun _ _ => rfl) | exact mapa_same meA_flat rfl (fun _ _ => rfl) | exact sub_map rfl | exact subL_nil | exact trivial | (intro Q h; refine h ?_; clear h Q) | refine And.intro ?_ ?_ | refine subL_cons ?_ ?_ | refine var_mk ?_ | exact sub_ptr rfl rfl | exact sub_sl rfl rfl rfl | exact sub_refl_val _ _ | exact row_same rfl rfl rfl | ((refine sub_int ?_); first | with_reducible rfl | omega | ((try simp only [wS]); omega) | rfl) ))))); any_goals (apply okIx_mk; rfl))); (all_goals (try (first | (simp only; omega)))))
  ))
 ·obtain rfl : z = ns.length := by omega
  rw [← hA0]
  (repeat' (first
  | (intro Q h; refine h ?_; clear h Q)
  | (refine bcase_mk (fun hb => ?_) (fun hb => ?_) <;> (try simp only [nS, nT, eq_self, reduceCtorEq] at hb) <;> (try (exfalso; omega)))
  | (apply ret_ex V ⟨hV1, hVk⟩ [some 0, some 1, some 2, some 3, some 5]; (focus (iterate 2 (all_goals (repeat' (first | exact fam_same rfl rfl rfl | exact mapa_same plA_flat rfl (fun _ _ => rfl) | exact mapa_same meA_flat rfl (fun _ _ => rfl) | exact sub_map rfl | exact trivial | (intro Q h; refine h ?_; clear h Q) | refine And.intro ?_ ?_ | exact row_same rfl rfl rfl ))))); any_goals (apply okIx_mk; rfl))
  ))
end Go.Vx.L58
