/- Lemmas of a small executor for the model, and contracts of functions, used for the law that this claim proves. No condition. -/
import Derived.Test.YtodbfpjjahpahaaGreatDoorDPA
import Derived.Test.YtodbfpjjahpahaaGreatDoorDEP5
import Derived.Test.YtodbfpjjahpahaaGreatDoorDW3
set_option linter.unusedSimpArgs false
set_option linter.unusedVariables false
set_option maxRecDepth 100000
namespace Go.Vx.L58
open Go Go.Proofs
section
variable {ns : List Nd} {l : List Ed}
theorem lxP_len (M : Mem) (x : Nat) : ∀ (L : List Int) (acc : List Mm), (L.foldl (lxP M x) acc).length ≤ acc.length + L.length
 | [], acc => by simp
 | p :: L, acc => by
  rw [List.foldl_cons]
  have := lxP_len M x L (lxP M x acc p)
  have h2 : (lxP M x acc p).length ≤ acc.length + 1 := by
   unfold lxP; split
   ·simp
   ·omega
  simp only [List.length_cons]; omega
theorem lxA_len (M : Mem) : ∀ x, (lxA (rsN ns l) M x).length ≤ 8 * x
 | 0 => by simp [lxA]
 | x + 1 => by
  have h1 := lxA_len M x
  have h2 := lxP_len M x ((rsN ns l).getD x []) (lxA (rsN ns l) M x)
  have : ((rsN ns l).getD x []).length ≤ 8 := by
   by_cases hx : x < ns.length
   ·rw [prR_get _ _ _ _ hx]; exact rpL_len8 _ _ _
   ·rw [List.getD_eq_getElem?_getD, List.getElem?_eq_none (by rw [prR_len]; omega)]; simp
  rw [lxA]; omega
theorem lx_wf {M : Mem} (hV : VS ns l M) : ∀ m ∈ lxA (rsN ns l) M ns.length, wfD m.set := fun m hm => by
 obtain ⟨x, p, _, _, h⟩ := (lx_ok (ns := ns) (l := l) M ns.length).mem m hm
 exact (hV x p _ _ h).2
theorem enE_run (hN : NOK ns l) {M : Mem} (hV : VS ns l M) {rd : Int} (hr : 0 ≤ rd ∧ rd ≤ 1073741824) : enE ns.length l ns rd (lxA (rsN ns l) M ns.length) = 0 := by
 unfold enE
 rw [if_neg (by rw [hN.ck]; omega), if_neg (by omega), if_pos (lx_okL hV)]
theorem vs_run (hN : NOK ns l) {s : MS} (hS : SOK ns (pkN' ns l) s) (t : Nat) : VS ns l ((netP ns l).run (memOf s) t) := by
 obtain ⟨s', h1, h2⟩ := run_VS hN s hS rfl t
 rw [← h2]; exact vs_of h1
theorem memOf_nil : memOf (entS []) = fun _ _ => none := by
 funext x p
 exact if_neg (by show ¬ (([] : List (List Int)).contains _ = true); simp)
end
abbrev bm : Br := ⟨-1, 0, 0⟩
def brK (s : Scn) (C : List Int) (i : Nat) : Nat → Br
 | 0 => bm
 | k + 1 => if C.getD k 0 = 6 then upF s i ((k : Int) + 1) else brK s C i k
def lastM (s : Scn) : List Mm := lxA (rsN s.ns s.l) ((netP s.ns s.l).run (memOf (entS [])) (s.ns.length : Int).toNat) s.ns.length
def cdS (s : Scn) (i : Nat) : List Int := codL (owD (s.ns.getD i nd0)) (hrX (entS (lastM s)) i 8)
theorem cdS_len (s : Scn) (i : Nat) : (cdS s i).length = 8 := by
 unfold cdS
 rw [codP_len]; exact hrX_len _ _ _
def trI (s : Scn) (n x k : Nat) : List Br := (List.range n).map fun i => if i < x then brK s (cdS s i) i 8 else if i = x then brK s (cdS s i) i k else bm
def trZ (n x : Nat) : List Br := (List.range n).map fun i => if i < x then bm else br0
abbrev trS (s : Scn) : List Br := trI s s.ns.length s.ns.length 0
theorem mapR_len {α : Type} (n : Nat) (f : Nat → α) : ((List.range n).map f).length = n := by simp
theorem mapR_get {α : Type} (n : Nat) (f : Nat → α) (d : α) (i : Nat) (h : i < n) : ((List.range n).map f).getD i d = f i := by
 rw [List.getD_eq_getElem?_getD, List.getElem?_map, List.getElem?_range h]; rfl
theorem mapR_out {α : Type} (n : Nat) (f : Nat → α) (d : α) (i : Nat) (h : ¬ i < n) : ((List.range n).map f).getD i d = d := by
 rw [List.getD_eq_getElem?_getD, List.getElem?_eq_none (by simpa using h)]; rfl
theorem mapR_eq {α : Type} {n : Nat} {f g : Nat → α} (h : ∀ i, i < n → f i = g i) : (List.range n).map f = (List.range n).map g :=
 List.map_congr_left fun i hi => h i (List.mem_range.1 hi)
theorem trI_len (s : Scn) (n x k : Nat) : (trI s n x k).length = n := mapR_len n _
theorem trZ_len (n x : Nat) : (trZ n x).length = n := mapR_len n _
theorem trZ_0 (n : Nat) : trZ n 0 = List.replicate n br0 := by
 refine List.ext_getElem (by simp [trZ]) fun k h1 h2 => ?_
 simp [trZ]
theorem trZ_n (s : Scn) (n : Nat) : trZ n n = trI s n 0 0 := mapR_eq fun i hi => by
 rw [if_pos hi, if_neg (by omega)]
 split <;> rfl
theorem trI_8 (s : Scn) (n x : Nat) : trI s n x 8 = trI s n (x + 1) 0 := mapR_eq fun i _ => by
 by_cases h : i < x
 ·rw [if_pos h, if_pos (by omega)]
 ·rw [if_neg h]
  by_cases h2 : i = x
  ·rw [if_pos h2, if_pos (by omega)]
  ·rw [if_neg h2, if_neg (by omega)]
   split <;> rfl
theorem trI_no (s : Scn) (n x k : Nat) (h : (cdS s x).getD k 0 ≠ 6) : trI s n x (k + 1) = trI s n x k := mapR_eq fun i _ => by
 by_cases h1 : i < x
 ·rw [if_pos h1, if_pos h1]
 ·rw [if_neg h1, if_neg h1]
  by_cases h2 : i = x
  ·subst h2
   rw [if_pos rfl, if_pos rfl, brK, if_neg h]
  ·rw [if_neg h2, if_neg h2]
theorem br_upd {ρ : Nat → Option Nat} {L L' : List Br} {x n n' : Nat} {a b c : Int} {q : Nat} (hq : q = x) (ho : ∀ k, k ≠ x → L'.getD k br0 = L.getD k br0) (hx : L'.getD x br0 = ⟨a, b, c⟩) (hn : n' = n) :
  BSub ρ (.arr true 95 3 n (rowF brC br0 L')) (.arr true 95 3 n' fun i' j' => bif Nat.beq i' q && (Nat.ble 0 j' && Nat.blt j' (0 + 3)) then [AV.val (.int .i64 a), .val (.int .i64 b), .val (.int .i64 c)].getD (j' - 0) .dead else rowF brC br0 L i' j') := by
 subst hq
 refine row_upd q (l := L) ho ?_ (fun i hi j => ?_) hn
 ·rw [hx]
  refine cell3 ?_ ?_ ?_ <;> (simp only [Nat.beq_refl]; exact sub_refl_val _ _)
 ·rw [show Nat.beq i q = false from beq_ne hi]; rfl
theorem trZ_upd (n x : Nat) (hx : x < n) : (∀ k, k ≠ x → (trZ n (x + 1)).getD k br0 = (trZ n x).getD k br0) ∧ (trZ n (x + 1)).getD x br0 = ⟨-1, 0, 0⟩ := by
 refine ⟨fun k hk => ?_, ?_⟩
 ·by_cases h : k < n
  ·unfold trZ
   rw [mapR_get _ _ _ _ h, mapR_get _ _ _ _ h]
   by_cases h2 : k < x
   ·rw [if_pos h2, if_pos (by omega)]
   ·rw [if_neg h2, if_neg (by omega)]
  ·unfold trZ
   rw [mapR_out _ _ _ _ h, mapR_out _ _ _ _ h]
 ·unfold trZ
  rw [mapR_get _ _ _ _ hx, if_pos (by omega)]
theorem trI_upd (s : Scn) (n x k : Nat) (hx : x < n) (h : (cdS s x).getD k 0 = 6) : (∀ i, i ≠ x → (trI s n x (k + 1)).getD i br0 = (trI s n x k).getD i br0) ∧ (trI s n x (k + 1)).getD x br0 = upF s x ((k : Int) + 1) := by
 refine ⟨fun i hi => ?_, ?_⟩
 ·unfold trI
  by_cases h : i < n
  ·rw [mapR_get _ _ _ _ h, mapR_get _ _ _ _ h]
   by_cases h2 : i < x
   ·rw [if_pos h2, if_pos h2]
   ·rw [if_neg h2, if_neg h2, if_neg hi, if_neg hi]
  ·rw [mapR_out _ _ _ _ h, mapR_out _ _ _ _ h]
 ·unfold trI
  rw [mapR_get _ _ _ _ hx, if_neg (by omega), if_pos rfl, brK, if_pos h]
theorem ckS_parts {s : Scn} (h : ckS s = 0) : ckE s.n s.l s.ns = 0 ∧ (s.os.length = s.ns.length ∧ s.tr.length = s.ns.length ∧ s.st.length = s.ns.length ∧ s.dn.length = s.l.length ∧ s.up.length = s.l.length) ∧ ckS1 s s.os.length 0 = 0 ∧ ckS2 s s.l.length 0 = 0 := by
 unfold ckS at h
 by_cases c1 : ckE s.n s.l s.ns = 0
 rotate_left
 ·rw [if_pos c1] at h; exact absurd h c1
 rw [if_neg (by omega)] at h
 by_cases c2 : s.os.length = s.ns.length ∧ s.tr.length = s.ns.length ∧ s.st.length = s.ns.length ∧ s.dn.length = s.l.length ∧ s.up.length = s.l.length
 rotate_left
 ·rw [if_pos c2] at h; omega
 rw [if_neg (by simpa using c2)] at h
 by_cases c3 : ckS1 s s.os.length 0 = 0
 rotate_left
 ·rw [if_pos c3] at h; exact absurd h c3
 rw [if_neg (by omega)] at h
 exact ⟨c1, c2, c3, h⟩
theorem enE_start {l : List Ed} {ns : List Nd} (h : ckE ns.length l ns = 0) : enE ns.length l ns 0 [] = 0 := by
 unfold enE
 rw [if_neg (by omega), if_neg (by omega)]; exact if_pos rfl
end Go.Vx.L58
set_option maxRecDepth 100000
namespace Go.Vx.L58
open Go Go.Proofs
set_option maxHeartbeats 8000000 in
theorem tree_ok (s : Scn) (ok : SOk s) (hc : ckS s = 0) : Runs Tryz.prog 20 [scA s] (scB s) (Det (.sl 8 3 0 s.ns.length none) [gB s.l, ndB s.ns, osB s.os s.hd, osR s.os s.hd, iB false s.dn, iB false s.up, blB s.tr, iB false s.st, .arr true 95 3 s.ns.length (rowF brC br0 (trS s))]) := by
 have hmx : maxLen = 9223372036854775807 := by decide
 obtain ⟨hck, ⟨L1, L2, L3, L4, L5⟩, _, _⟩ := ckS_parts hc
 obtain ⟨hc1, hc2, _⟩ := ckE_zero hck
 have hN : NOK s.ns s.l := ⟨by rw [hc2]; exact hck, ok.hw⟩
 have hck' : ckE s.ns.length s.l s.ns = 0 := hN.ck
 have hF := fok hN
 have hn24 := hF.n24
 obtain ⟨m', hmm, hmb, hl64, hed⟩ := ckC_parts hc1
 have hst := start_ok s.n s.l s.c0 s.ns s.c1
 have he := enE_start hck'
 have hr : runE s.n s.l s.ns 0 [] s.ns.length = 0 := by rw [← hc2]; unfold runE; rw [he, if_neg (by decide), if_neg (by omega)]
 have hru := (run_ok s.l s.c0 ok.hl s.ns s.c1 ok.hn ok.hw s.n 0 [] none (by decide) (fun m h => by cases h) s.ns.length).2 hr
 have hV := vs_run hN (sok_ent (ns := s.ns) (l := s.l) (ms := []) (by rfl) (fun m h => by cases h)) ((s.ns.length : Int)).toNat
 have hLl := lxA_len (ns := s.ns) (l := s.l) ((netP s.ns s.l).run (memOf (entS [])) ((s.ns.length : Int)).toNat) s.ns.length
 have hco := fun x hx => codes_ok s.n s.l s.c0 ok.hl s.ns s.c1 ok.hn ok.hw (0 + (s.ns.length : Int)) (lastM s) none (by unfold lastM; omega) (lx_wf hV) (by rw [← hc2]; exact enE_run hN hV (by omega)) x hx
 have hup := fun (i : Nat) (w : Int) => upward_ok s (by omega) L4 L5 i w
 have hM' : lsX s.ns.length (prR s.ns.length s.l s.ns.length) ((netP s.ns s.l).run (memOf (entS [])) ((s.ns.length : Int)).toNat) = lastM s := rfl
 rw [hM'] at hru
 have hcd : ∀ x, codL (owD (s.ns.getD x nd0)) (hrX (entS (lastM s)) x 8) = cdS s x := fun _ => rfl
 simp only [hcd] at hco
 have hcl := cdS_len s
 have hMl : (lastM s).length = (lastM s).length := rfl
 have hT8 := trI_8 s s.ns.length
 have hTn := trI_no s s.ns.length
 have hTu := fun x k hx h => trI_upd s s.ns.length x k hx h
 have hTl := trI_len s s.ns.length
 have hZl := trZ_len s.ns.length
 have hZ0 := trZ_0 s.ns.length
 have hZn := trZ_n s s.ns.length
 have hZu := trZ_upd s.ns.length
 generalize lastM s = M at *
 generalize hTT : trI s s.ns.length = T at *
 generalize hZZ : trZ s.ns.length = Z at *
 generalize hCC : cdS s = C at *
 refine Runs.mk tabOK Tryz.call20 Tryz.func20 rfl Tryz.ntmps20 Tryz.results20 rfl ?_
 (repeat' (first
  | (intro Q h; refine h ?_; clear h Q)
  | refine seq_go ?_
  | refine And.intro (by first | omega | ((try simp only [wS]); omega) | rfl | decide) ?_
  ))
 refine loop_inv (σ := Nat) (fun x => x ≤ s.ns.length) (fun x => ⟨[(1, .ptr 8 8 0 0), (3, .sl 9 3 0 s.ns.length none), (18, .val (.int .i64 s.ns.length)), (19, .val (.int .i64 x))], [gB s.l, ndB s.ns, osB s.os s.hd, osR s.os s.hd, iB false s.dn, iB false s.up, blB s.tr, iB false s.st, .var (scV s), .arr true 95 3 s.ns.length (rowF brC br0 (Z x))]⟩) (fun x => s.ns.length - x) (0) ?_ ?_ ?_
 ·omega
 ·rw [hZ0]
  (apply le_mk [some 0, some 1, some 2, some 3, some 4, some 5, some 6, some 7, some 8, some 9]; (focus (iterate 2 (all_goals (repeat' (first | exact rows_same rfl rfl rfl rfl | exact os_same rfl rfl rfl rfl | exact subL_nil | exact trivial | (intro Q h; refine h ?_; clear h Q) | refine And.intro ?_ ?_ | refine subL_cons ?_ ?_ | refine var_mk ?_ | exact sub_ptr rfl rfl | exact sub_sl rfl rfl rfl | exact sub_refl_val _ _ | exact row_same rfl rfl rfl ))))); any_goals (apply okIx_mk; rfl))
  all_goals exact row_rep (x := br0) (subL_cons (sub_int rfl) (subL_cons (sub_int rfl) (subL_cons (sub_int rfl) subL_nil))) rfl rfl
 rintro k hk
 by_cases hkl : k < s.ns.length
 ·obtain ⟨u1, u2⟩ := hZu k hkl
  (repeat' (first
  | (intro Q h; refine h ?_; clear h Q)
  | (refine bcase_mk (fun hb => ?_) (fun hb => ?_) <;> (try simp only [nS, nT, eq_self, reduceCtorEq] at hb) <;> (try (exfalso; omega)))
  | refine seq_go ?_
  | refine And.intro (by first | omega | ((try simp only [wS]); omega) | rfl | decide) ?_
  | (apply next_sub (Subtype.mk (k + 1) _); (focus (apply le_mk [some 0, some 1, some 2, some 3, some 4, some 5, some 6, some 7, some 8, some 9]; (focus (iterate 2 (all_goals (repeat' (first | exact rows_same rfl rfl rfl rfl | exact os_same rfl rfl rfl rfl | exact subL_nil | exact trivial | (intro Q h; refine h ?_; clear h Q) | refine And.intro ?_ ?_ | refine subL_cons ?_ ?_ | refine var_mk ?_ | exact sub_ptr rfl rfl | exact sub_sl rfl rfl rfl | exact sub_refl_val _ _ | exact row_same rfl rfl rfl | ((refine sub_int ?_); first | with_reducible rfl | omega | ((try simp only [wS]); omega) | rfl) ))))); any_goals (apply okIx_mk; rfl))); (all_goals (try (first | omega | (simp only; omega)))))
  ))
  all_goals exact br_upd (by omega) u1 u2 rfl
 obtain rfl : k = s.ns.length := by omega
 rw [hZn]
 (repeat' (first
  | (intro Q h; refine h ?_; clear h Q)
  | (refine bcase_mk (fun hb => ?_) (fun hb => ?_) <;> (try simp only [nS, nT, eq_self, reduceCtorEq] at hb) <;> (try (exfalso; omega)))
  | refine draw_mk (by decide +kernel) ?_
  | refine seq_go ?_
  | ((first | apply calld_detx [some 0, some 1] (hst)); exact AS; (any_goals (first | (apply nodup_mk2; rfl) )))
  | ((first | apply calld_detx [some 0, some 1, none] (hru)); exact AS; (any_goals (first | (apply nodup_mk2; rfl) )))
  ))
 refine loop_inv (σ := Nat) (fun x => x ≤ s.ns.length) (fun x => ⟨[(1, .ptr 8 8 0 0), (3, .sl 9 3 0 s.ns.length none), (5, .ptr 11 2 0 0), (42, .val (.int .i64 s.ns.length)), (43, .val (.int .i64 x))], [gB s.l, ndB s.ns, osB s.os s.hd, osR s.os s.hd, iB false s.dn, iB false s.up, blB s.tr, iB false s.st, .var (scV s), .arr true 95 3 s.ns.length (rowF brC br0 (T x 0)), meB true M, .var [.val (.int .i64 (0 + (s.ns.length : Int))), .sl 10 14 0 M.length none]]⟩) (fun x => s.ns.length - x) (0) ?_ ?_ ?_
 ·omega
 ·(apply le_mk [some 0, some 1, some 2, some 3, some 4, some 5, some 6, some 7, some 8, some 9, some 10, some 11]; exact AS; any_goals (apply okIx_mk; rfl))
 rintro v hv
 by_cases hvl : v < s.ns.length
 ·have hco := hco v hvl
  have hcv := hcl v
  have hup := hup v
  have hT8 := hT8 v
  have hTn := hTn v
  have hTu := fun k h => hTu v k hvl h
  generalize hCv : C v = D at *
  (repeat' (first
  | (intro Q h; refine h ?_; clear h Q)
  | (refine bcase_mk (fun hb => ?_) (fun hb => ?_) <;> (try simp only [nS, nT, eq_self, reduceCtorEq] at hb) <;> (try (exfalso; omega)))
  | refine seq_go ?_
  | ((first | apply call_detx [some 0, some 1, some 10] (hco) ); exact AS; any_goals (apply nodup_mk; rfl))
  ))
  refine loop_inv (σ := Nat) (fun x => x ≤ 8) (fun x => ⟨[(1, .ptr 8 8 0 0), (3, .sl 9 3 0 s.ns.length none), (5, .ptr 11 2 0 0), (7, .val (.int .i64 v)), (42, .val (.int .i64 s.ns.length)), (43, .val (.int .i64 v)), (54, .sl 12 1 0 8 none), (55, .val (.int .i64 (8 : Nat))), (56, .val (.int .i64 x))], [gB s.l, ndB s.ns, osB s.os s.hd, osR s.os s.hd, iB false s.dn, iB false s.up, blB s.tr, iB false s.st, .var (scV s), .arr true 95 3 s.ns.length (rowF brC br0 (T v x)), meB true M, .var [.val (.int .i64 (0 + (s.ns.length : Int))), .sl 10 14 0 M.length none], iB true D]⟩) (fun x => 8 - x) (0) ?_ ?_ ?_
  ·omega
  ·(apply le_mk [some 0, some 1, some 2, some 3, some 4, some 5, some 6, some 7, some 8, some 9, some 10, some 11, some 12]; exact AS; any_goals (apply okIx_mk; rfl))
  rintro k hk
  by_cases hk8 : k < 8
  ·have hz : 0 + Int.toNat (k : Int) = k := by omega
   have hw : IntKind.i64.wrap ((k : Int) + 1) = (k : Int) + 1 := by rw [IntKind.wrap_i64]; omega
   have hup := hup (IntKind.i64.wrap ((k : Int) + 1))
   by_cases h6 : D.getD (0 + Int.toNat (k : Int)) 0 = 6
   ·obtain ⟨u1, u2⟩ := hTu k (by rw [hz] at h6; exact h6)
    rw [← hw] at u2
    generalize hU : upF s (v : Int) (IntKind.i64.wrap ((k : Int) + 1)) = U at *
    (repeat' (first
  | (intro Q h; refine h ?_; clear h Q)
  | (refine bcase_mk (fun hb => ?_) (fun hb => ?_) <;> (try simp only [nS, nT, eq_self, reduceCtorEq] at hb) <;> (try (exfalso; omega)))
  | refine seq_go ?_
  | refine And.intro (by first | omega | ((try simp only [wS]); omega) | rfl | decide) ?_
  | ((first | apply call_detx [some 0, some 1, some 2, some 3, some 4, some 5, some 6, some 7] (hup) ); exact AS; any_goals (apply nodup_mk; rfl))
  | (apply next_sub (Subtype.mk (k + 1) _); (focus (apply le_mk [some 0, some 1, some 2, some 3, some 4, some 5, some 6, some 7, some 8, some 9, some 10, some 11, some 12]; (focus (iterate 2 (all_goals (repeat' (first | exact rows_same rfl rfl rfl rfl | exact os_same rfl rfl rfl rfl | exact subL_nil | exact trivial | (intro Q h; refine h ?_; clear h Q) | refine And.intro ?_ ?_ | refine subL_cons ?_ ?_ | refine var_mk ?_ | exact sub_ptr rfl rfl | exact sub_sl rfl rfl rfl | exact sub_refl_val _ _ | exact row_same rfl rfl rfl | ((refine sub_int ?_); first | with_reducible rfl | omega | ((try simp only [wS]); omega) | rfl) ))))); any_goals (apply okIx_mk; rfl))); (all_goals (try (first | omega | (simp only; omega)))))
  ))
    all_goals exact br_upd (by omega) u1 u2 rfl
   ·have hTn := hTn k (by rw [hz] at h6; exact h6)
    (repeat' (first
  | (intro Q h; refine h ?_; clear h Q)
  | (refine bcase_mk (fun hb => ?_) (fun hb => ?_) <;> (try simp only [nS, nT, eq_self, reduceCtorEq] at hb) <;> (try (exfalso; omega)))
  | refine seq_go ?_
  | refine And.intro (by first | omega | ((try simp only [wS]); omega) | rfl | decide) ?_
  | (apply next_sub (Subtype.mk (k + 1) (by first | omega | (simp only; omega))); (focus ((simp only [hTn]); apply le_mk [some 0, some 1, some 2, some 3, some 4, some 5, some 6, some 7, some 8, some 9, some 10, some 11, some 12]; exact AS; any_goals (apply okIx_mk; rfl))); (all_goals (try (first | (simp only; omega)))))
  ))
  ·obtain rfl : k = 8 := by omega
   rw [hT8]
   (repeat' (first
  | (intro Q h; refine h ?_; clear h Q)
  | (refine bcase_mk (fun hb => ?_) (fun hb => ?_) <;> (try simp only [nS, nT, eq_self, reduceCtorEq] at hb) <;> (try (exfalso; omega)))
  | (apply next_sub (Subtype.mk (v + 1) _); (focus (apply le_mk [some 0, some 1, some 2, some 3, some 4, some 5, some 6, some 7, some 8, some 9, some 10, some 11]; (focus (iterate 2 (all_goals (repeat' (first | exact rows_same rfl rfl rfl rfl | exact os_same rfl rfl rfl rfl | exact subL_nil | exact trivial | (intro Q h; refine h ?_; clear h Q) | refine And.intro ?_ ?_ | refine subL_cons ?_ ?_ | refine var_mk ?_ | exact sub_ptr rfl rfl | exact sub_sl rfl rfl rfl | exact sub_refl_val _ _ | exact row_same rfl rfl rfl | ((refine sub_int ?_); first | with_reducible rfl | omega | ((try simp only [wS]); omega) | rfl) ))))); any_goals (apply okIx_mk; rfl))); (all_goals (try (first | omega | (simp only; omega)))))
  ))
 ·obtain rfl : v = s.ns.length := by omega
  (repeat' (first
  | (intro Q h; refine h ?_; clear h Q)
  | (refine bcase_mk (fun hb => ?_) (fun hb => ?_) <;> (try simp only [nS, nT, eq_self, reduceCtorEq] at hb) <;> (try (exfalso; omega)))
  | (apply ret_mk [some 0, some 1, some 2, some 3, some 4, some 5, some 6, some 7, some 9]; (focus (iterate 2 (all_goals (repeat' (first | exact rows_same rfl rfl rfl rfl | exact os_same rfl rfl rfl rfl | exact trivial | (intro Q h; refine h ?_; clear h Q) | refine And.intro ?_ ?_ | exact sub_sl rfl rfl rfl | exact row_same rfl rfl rfl | ((first | show (_ : Nat) = _); first | with_reducible rfl | omega | ((try simp only [wS]); omega) | rfl) | refine row_same rfl ?_ ?_ ))))); any_goals (apply okIx_mk; rfl))
  ))
  all_goals (rw [← hTT])
end Go.Vx.L58
set_option maxRecDepth 100000
namespace Go.Vx.L58
open Go Go.Proofs
theorem upW_p (s : Scn) (n : Nat) (hed : ∀ e ∈ s.l, (0 ≤ e.a ∧ e.a < n) ∧ (0 ≤ e.b ∧ e.b < n)) (v w : Int) (hn : 0 < n) : ∀ k i, i + k ≤ s.l.length → -1 ≤ (upW s v w k i).p ∧ (upW s v w k i).p < n
 | 0, i, _ => by simp only [upW]; omega
 | k + 1, i, h => by
  have he := hed _ (getD_mem s.l i ed0 (by omega))
  rw [upW]
  split
  ·simp only; omega
  ·split
   ·simp only; omega
   ·exact upW_p s n hed v w hn k (i + 1) (by omega)
theorem brK_p (s : Scn) (n : Nat) (hed : ∀ e ∈ s.l, (0 ≤ e.a ∧ e.a < n) ∧ (0 ≤ e.b ∧ e.b < n)) (hn : 0 < n) (C : List Int) (i : Nat) : ∀ k, -1 ≤ (brK s C i k).p ∧ (brK s C i k).p < n
 | 0 => by simp only [brK]; omega
 | k + 1 => by
  rw [brK]
  split
  ·exact upW_p s n hed _ _ hn _ _ (by omega)
  ·exact brK_p s n hed hn C i k
theorem sc_parts {s : Scn} (ok : SOk s) (hc : ckS s = 0) : NOK s.ns s.l ∧ (1 ≤ s.ns.length ∧ s.ns.length ≤ 24) ∧ s.l.length ≤ 1000 ∧ (∀ e ∈ s.l, (0 ≤ e.a ∧ e.a < (s.ns.length : Int)) ∧ (0 ≤ e.b ∧ e.b < (s.ns.length : Int))) := by
 obtain ⟨hck, _, _, _⟩ := ckS_parts hc
 obtain ⟨hc1, hc2, _⟩ := ckE_zero hck
 have hN : NOK s.ns s.l := ⟨by rw [hc2]; exact hck, ok.hw⟩
 obtain ⟨m', hmm, hmb, hl64, hed⟩ := ckC_parts hc1
 have hn := hN.parts.2.1
 refine ⟨hN, hn, by omega, fun e he => ?_⟩
 have := hed e he
 unfold edOK at this
 omega
theorem trS_ok {s : Scn} (ok : SOk s) (hc : ckS s = 0) : TrOK (trS s) := by
 obtain ⟨_, hn, _, hed⟩ := sc_parts ok hc
 have hl := trI_len s s.ns.length s.ns.length 0
 show (trI s s.ns.length s.ns.length 0).length ≤ 24 ∧ ∀ i, i < (trI s s.ns.length s.ns.length 0).length → ((trI s s.ns.length s.ns.length 0).getD i br0).p < ((trI s s.ns.length s.ns.length 0).length : Int)
 rw [hl]
 refine ⟨hn.2, fun i hi => ?_⟩
 unfold trI
 rw [mapR_get _ _ _ _ hi, if_pos hi]
 exact (brK_p s s.ns.length hed (by omega) _ i 8).2
def rvD (U : List Int) (j : Nat) : List Int := (U.drop (U.length - j)).reverse
theorem rvD_0 (U : List Int) : rvD U 0 = [] := by simp [rvD]
theorem rvD_all (U : List Int) : rvD U U.length = U.reverse := by simp [rvD]
theorem rvD_succ (U : List Int) (j : Nat) (h : j < U.length) : rvD U (j + 1) = rvD U j ++ [U.getD (U.length - 1 - j) 0] := by
 unfold rvD
 rw [drop_cons U (U.length - (j + 1)) 0 (by omega), List.reverse_cons, show U.length - (j + 1) + 1 = U.length - j by omega, show U.length - (j + 1) = U.length - 1 - j by omega]
theorem rvD_len (U : List Int) (j : Nat) (h : j ≤ U.length) : (rvD U j).length = j := by
 unfold rvD; rw [List.length_reverse, List.length_drop]; omega
set_option maxHeartbeats 8000000 in
theorem route_ok (s : Scn) (ok : SOk s) (v : Int) :
  (ckS s ≠ 0 → Runs Tryz.prog 15 [scA s, .val (.int .i64 v)] (scB s) (Det (.tup [.val (.slice none 0 0), .val (.int .i64 (ckS s))]) (scB s))) ∧
  (ckS s = 0 → ¬ (0 ≤ v ∧ v < s.ns.length) → Runs Tryz.prog 15 [scA s, .val (.int .i64 v)] (scB s) (Det (.tup [.val (.slice none 0 0), .val (.int .i64 3)]) (scB s))) ∧
  (ckS s = 0 → 0 ≤ v ∧ v < s.ns.length → Runs Tryz.prog 15 [scA s, .val (.int .i64 v)] (scB s) (Det (.tup [.sl 8 1 0 (clF (trS s) (s.ns.length - 1) v.toNat).reverse.length none, .val (.int .i64 0)]) [gB s.l, ndB s.ns, osB s.os s.hd, osR s.os s.hd, iB false s.dn, iB false s.up, blB s.tr, iB false s.st, iB true (clF (trS s) (s.ns.length - 1) v.toNat).reverse])) := by
 have hmx : maxLen = 9223372036854775807 := by decide
 have hn := ok.hn
 have hck := scheck_ok s ok
 refine ⟨fun hc => ?_, fun hc hv => ?_, fun hc hv => ?_⟩
 ·generalize ckS s = c at *
  refine Runs.mk tabOK Tryz.call15 Tryz.func15 rfl Tryz.ntmps15 Tryz.results15 rfl ?_
  (repeat' (first
  | (intro Q h; refine h ?_; clear h Q)
  | (refine bcase_mk (fun hb => ?_) (fun hb => ?_) <;> (try simp only [nS, nT, eq_self, reduceCtorEq] at hb) <;> (try (exfalso; omega)))
  | refine seq_go ?_
  | ((first | apply call_detx [some 0, some 1, some 2, some 3, some 4, some 5, some 6, some 7] (hck) ); exact AS; any_goals (apply nodup_mk; rfl))
  | (apply ret_mk [some 0, some 1, some 2, some 3, some 4, some 5, some 6, some 7]; exact AS; any_goals (apply okIx_mk; rfl))
  ))
 ·rw [hc] at hck
  refine Runs.mk tabOK Tryz.call15 Tryz.func15 rfl Tryz.ntmps15 Tryz.results15 rfl ?_
  (repeat' (first
  | (intro Q h; refine h ?_; clear h Q)
  | (refine bcase_mk (fun hb => ?_) (fun hb => ?_) <;> (try simp only [nS, nT, eq_self, reduceCtorEq] at hb) <;> (try (exfalso; omega)))
  | refine seq_go ?_
  | ((first | apply call_detx [some 0, some 1, some 2, some 3, some 4, some 5, some 6, some 7] (hck) ); exact AS; any_goals (apply nodup_mk; rfl))
  | (apply ret_mk [some 0, some 1, some 2, some 3, some 4, some 5, some 6, some 7]; exact AS; any_goals (apply okIx_mk; rfl))
  ))
 obtain ⟨v, rfl⟩ := Int.eq_ofNat_of_zero_le hv.1
 have htr := tree_ok s ok hc
 have hT := trS_ok ok hc
 have hTl : (trS s).length = s.ns.length := trI_len ..
 have hcl := climb_ok (trS s) hT none v (by omega)
 have hU := clF_len (trS s) ((trS s).length - 1) v
 unfold brB at hcl
 rw [hTl] at hcl hU
 rw [hc] at hck
 rw [Int.toNat_natCast]
 have h24 := hT.1
 generalize trS s = T at *
 generalize clF T (s.ns.length - 1) v = U at *
 have hr0 := rvD_0 U
 have hra := rvD_all U
 have hrs := fun j h => rvD_succ U j h
 have hrl := fun j h => rvD_len U j h
 rw [← hra, hrl _ (Nat.le_refl _)]
 generalize hRR : rvD U = R at *
 generalize hcap : capL U.length = cp at *
 refine Runs.mk tabOK Tryz.call15 Tryz.func15 rfl Tryz.ntmps15 Tryz.results15 rfl ?_
 (repeat' (first
  | (intro Q h; refine h ?_; clear h Q)
  | (refine bcase_mk (fun hb => ?_) (fun hb => ?_) <;> (try simp only [nS, nT, eq_self, reduceCtorEq] at hb) <;> (try (exfalso; omega)))
  | refine seq_go ?_
  | refine And.intro (by first | omega | ((try simp only [wS]); omega) | rfl | decide) ?_
  | ((first | apply call_detx [some 0, some 1, some 2, some 3, some 4, some 5, some 6, some 7] (hck) ); exact AS; any_goals (apply nodup_mk; rfl))
  | ((first | apply call_detx [some 0, some 1, some 2, some 3, some 4, some 5, some 6, some 7] (htr) ); exact AS; any_goals (apply nodup_mk; rfl))
  | ((first | apply call_detx [some 9] (hcl) ); exact AS; any_goals (apply nodup_mk; rfl))
  ))
 refine loop_inv (σ := Nat) (fun x => x ≤ U.length) (fun x => ⟨[(7, .sl 10 1 0 U.length cp), (8, .sl 11 1 0 x none), (9, .val (.int .i64 ((U.length : Int) - 1 - x)))], [gB s.l, ndB s.ns, osB s.os s.hd, osR s.os s.hd, iB false s.dn, iB false s.up, blB s.tr, iB false s.st, .var (scV s), .arr true 95 3 s.ns.length (rowF brC br0 T), iB true U, .arr true 3 1 x (intF (R x))]⟩) (fun x => U.length - x) (0) ?_ ?_ ?_
 ·omega
 ·rw [hr0]
  (apply le_mk [some 0, some 1, some 2, some 3, some 4, some 5, some 6, some 7, some 8, some 9, some 10, some 11]; (focus (iterate 2 (all_goals (repeat' (first | exact rows_same rfl rfl rfl rfl | exact os_same rfl rfl rfl rfl | exact subL_nil | exact trivial | (intro Q h; refine h ?_; clear h Q) | refine And.intro ?_ ?_ | refine subL_cons ?_ ?_ | refine var_mk ?_ | exact sub_sl rfl rfl rfl | exact sub_refl_val _ _ | exact row_same rfl rfl rfl | exact row_ren rfl rfl rfl | ((refine sub_int ?_); first | with_reducible rfl | omega | ((try simp only [wS]); omega) | rfl) ))))); any_goals (apply okIx_mk; rfl))
  all_goals exact bsub_arr (fun _ => rfl) rfl fun i hi => absurd hi (Nat.not_lt_zero _)
 rintro k hk
 by_cases hkl : k < U.length
 ·have hz : 0 + Int.toNat ((U.length : Int) - 1 - k) = U.length - 1 - k := by omega
  have hn1 : R (k + 1) = R k ++ [U.getD (0 + Int.toNat ((U.length : Int) - 1 - k)) 0] := by rw [hz]; exact hrs k hkl
  have hlk := hrl k hk
  (repeat' (first
  | (intro Q h; refine h ?_; clear h Q)
  | (refine bcase_mk (fun hb => ?_) (fun hb => ?_) <;> (try simp only [nS, nT, eq_self, reduceCtorEq] at hb) <;> (try (exfalso; omega)))
  | refine seq_go ?_
  | refine And.intro (by first | omega | ((try simp only [wS]); omega) | rfl | decide) ?_
  | (apply next_sub (Subtype.mk (k + 1) (by first | omega | (simp only; omega))); (focus ((simp only [hn1]); apply le_mk [some 0, some 1, some 2, some 3, some 4, some 5, some 6, some 7, some 8, some 9, some 10, some _]; exact AS; any_goals (apply okIx_mk; rfl))); (all_goals (try (first | (simp only; omega)))))
  ))
 ·obtain rfl : k = U.length := by omega
  (repeat' (first
  | (intro Q h; refine h ?_; clear h Q)
  | (refine bcase_mk (fun hb => ?_) (fun hb => ?_) <;> (try simp only [nS, nT, eq_self, reduceCtorEq] at hb) <;> (try (exfalso; omega)))
  | refine seq_go ?_
  | (apply ret_mk [some 0, some 1, some 2, some 3, some 4, some 5, some 6, some 7, some 11]; (focus (iterate 2 (all_goals (repeat' (first | exact rows_same rfl rfl rfl rfl | exact os_same rfl rfl rfl rfl | exact subL_nil | exact trivial | (intro Q h; refine h ?_; clear h Q) | refine And.intro ?_ ?_ | refine subL_cons ?_ ?_ | refine sub_tup ?_ | exact sub_sl rfl rfl rfl | exact sub_refl_val _ _ | exact row_same rfl rfl rfl | with_reducible rfl | refine row_same rfl ?_ ?_ ))))); any_goals (apply okIx_mk; rfl))
  ))
  all_goals exact (hrl _ (Nat.le_refl _)).symm
end Go.Vx.L58
set_option maxRecDepth 100000
namespace Go.Vx.L58
open Go Go.Proofs
def wE (tr : List Bool) (U : List Int) : Nat → Nat → Nat
 | 0, e => e
 | f + 1, e => if e + 1 < U.length ∧ tr.getD (U.getD e 0).toNat false = true then wE tr U f (e + 1) else e
theorem wE_ge (tr : List Bool) (U : List Int) : ∀ f e, e ≤ wE tr U f e ∧ wE tr U f e ≤ e + f
 | 0, e => by simp [wE]
 | f + 1, e => by
  rw [wE]
  split
  ·have := wE_ge tr U f (e + 1); omega
  ·omega
def wM (tr : List Bool) (U : List Int) : Nat := min (wE tr U (U.length - 1) 1) (U.length - 1)
def rvF (f : Nat → Int) (m : Nat) : Nat → List Int
 | 0 => []
 | j + 1 => rvF f m j ++ [f (m - j)]
theorem rvF_len (f : Nat → Int) (m : Nat) : ∀ j, (rvF f m j).length = j
 | 0 => rfl
 | j + 1 => by rw [rvF, List.length_append, rvF_len f m j]; rfl
theorem rvF_get (f : Nat → Int) (m : Nat) : ∀ j i, i < j → (rvF f m j).getD i 0 = f (m - i)
 | 0, i, h => by omega
 | j + 1, i, h => by
  have hl := rvF_len f m j
  rw [rvF, List.getD_eq_getElem?_getD]
  by_cases hi : i < j
  ·rw [List.getElem?_append_left (by omega), ← List.getD_eq_getElem?_getD, rvF_get f m j i hi]
  ·obtain rfl : i = j := by omega
   rw [List.getElem?_append_right (by omega), hl, Nat.sub_self]; rfl
def wN (U : List Int) (m : Nat) : Nat → List Int := rvF (fun i => U.getD i 0) m
def wT (t : List Br) (U : List Int) (m : Nat) : Nat → List Int := rvF (fun i => (t.getD (U.getD (i - 1) 0).toNat br0).t) m
def wB (t : List Br) (U : List Int) (m : Nat) : Nat → List Int := rvF (fun i => (t.getD (U.getD (i - 1) 0).toNat br0).b) m
set_option maxHeartbeats 8000000 in
theorem wayof_ok (s : Scn) (t : List Br) (ht : TrOK t) (htr : s.tr.length = t.length) (cap : Option Nat) (v : Nat) (hv : v < t.length) :
  Runs Tryz.prog 21 [scA s, .sl 8 3 0 t.length cap, .val (.int .i64 v)] [gB s.l, ndB s.ns, osB s.os s.hd, osR s.os s.hd, iB false s.dn, iB false s.up, blB s.tr, iB false s.st, brB false t]
   (Det (.agg [.sl 9 1 0 (wM s.tr (clF t (t.length - 1) v) + 1) none, .sl 10 1 0 (wM s.tr (clF t (t.length - 1) v)) none, .sl 11 1 0 (wM s.tr (clF t (t.length - 1) v)) none])
    [gB s.l, ndB s.ns, osB s.os s.hd, osR s.os s.hd, iB false s.dn, iB false s.up, blB s.tr, iB false s.st, brB false t, .arr true 3 1 (wM s.tr (clF t (t.length - 1) v) + 1) (intF (wN (clF t (t.length - 1) v) (wM s.tr (clF t (t.length - 1) v)) (wM s.tr (clF t (t.length - 1) v) + 1))),
     .arr true 3 1 (wM s.tr (clF t (t.length - 1) v)) (intF (wT t (clF t (t.length - 1) v) (wM s.tr (clF t (t.length - 1) v)) (wM s.tr (clF t (t.length - 1) v)))),
     .arr true 3 1 (wM s.tr (clF t (t.length - 1) v)) (intF (wB t (clF t (t.length - 1) v) (wM s.tr (clF t (t.length - 1) v)) (wM s.tr (clF t (t.length - 1) v))))]) := by
 have hcl := climb_ok t ht cap v hv
 have hU := clF_len t (t.length - 1) v
 have hUl := fun i hi => clF_lt ht (t.length - 1) v hv _ (getD_mem (clF t (t.length - 1) v) i 0 hi)
 have h24 := ht.1
 generalize clF t (t.length - 1) v = U at *
 have hEs : ∀ f e, wE s.tr U (f + 1) e = if e + 1 < U.length ∧ s.tr.getD (U.getD e 0).toNat false = true then wE s.tr U f (e + 1) else e := fun _ _ => rfl
 have hE0 : ∀ e, wE s.tr U 0 e = e := fun _ => rfl
 have hEg := wE_ge s.tr U
 have hMM : wM s.tr U = min (wE s.tr U (U.length - 1) 1) (U.length - 1) := rfl
 generalize hM : wM s.tr U = M at *
 generalize hWE : wE s.tr U = W at *
 have hNs : ∀ j, wN U M (j + 1) = wN U M j ++ [U.getD (M - j) 0] := fun _ => rfl
 have hTs : ∀ j, wT t U M (j + 1) = wT t U M j ++ [(t.getD (U.getD (M - j - 1) 0).toNat br0).t] := fun _ => rfl
 have hBs : ∀ j, wB t U M (j + 1) = wB t U M j ++ [(t.getD (U.getD (M - j - 1) 0).toNat br0).b] := fun _ => rfl
 have hN0 : wN U M 0 = [] := rfl
 have hT0 : wT t U M 0 = [] := rfl
 have hB0 : wB t U M 0 = [] := rfl
 have hNl : ∀ j, (wN U M j).length = j := rvF_len _ M
 have hTl : ∀ j, (wT t U M j).length = j := rvF_len _ M
 have hBl : ∀ j, (wB t U M j).length = j := rvF_len _ M
 generalize wN U M = FN at *
 generalize wT t U M = FT at *
 generalize wB t U M = FB at *
 generalize hcp : capL U.length = cp at *
 refine Runs.mk tabOK Tryz.call21 Tryz.func21 rfl Tryz.ntmps21 Tryz.results21 rfl ?_
 (repeat' (first
  | (intro Q h; refine h ?_; clear h Q)
  | refine seq_go ?_
  | ((first | apply call_detx [some 8] (hcl) ); exact AS; any_goals (apply nodup_mk; rfl))
  ))
 refine loop_inv (σ := Nat) (fun x => 1 ≤ x ∧ x ≤ U.length ∧ W (U.length - x) x = W (U.length - 1) 1) (fun x => ⟨[(1, .sl 8 3 0 t.length cap), (3, .ptr 9 8 0 0), (6, .ptr 11 3 0 0), (7, .sl 10 1 0 U.length cp), (8, .val (.int .i64 x))], [gB s.l, ndB s.ns, osB s.os s.hd, osR s.os s.hd, iB false s.dn, iB false s.up, blB s.tr, iB false s.st, brB false t, .var (scV s), iB true U, .var [.dead, .dead, .dead]]⟩) (fun x => U.length - x) (1) ?_ ?_ ?_
 ·exact ⟨by omega, by omega, rfl⟩
 ·(apply le_mk [some 0, some 1, some 2, some 3, some 4, some 5, some 6, some 7, some 8, some 9, some _, some _]; exact AS; any_goals (apply okIx_mk; rfl))
 rintro e ⟨he, hel, hee⟩
 have hze : 0 + Int.toNat (e : Int) = e := by omega
 have eL : IntKind.i64.wrap ((U.length : Int) - 1) = (U.length : Int) - 1 := by rw [IntKind.wrap_i64]; omega
 by_cases hl : e + 1 < U.length
 ·have hu := hUl e (by omega)
  have hee' := hEs (U.length - e - 1) e
  rw [show U.length - e - 1 + 1 = U.length - e by omega, hee] at hee'
  cases hh : s.tr.getD (0 + (U.getD (0 + Int.toNat (e : Int)) 0).toNat) false
  ·rw [if_neg (by rw [hze, Nat.zero_add] at hh; rw [hh]; simp)] at hee'
   have hMe : M = e := by omega
   rw [← hze] at hu
   (repeat' (first
  | (intro Q h; refine h ?_; clear h Q)
  | (refine bcase_mk (fun hb => ?_) (fun hb => ?_) <;> (try simp only [nS, nT, eq_self, reduceCtorEq] at hb) <;> (try (exfalso; (first | omega | (rw [hh] at hb; cases hb)); done)))
  | refine draw_mk (by decide +kernel) ?_
  | refine seq_go ?_
  | refine And.intro (by first | omega | ((try simp only [wS]); omega) | rfl | decide) ?_
  ))
   refine loop_inv (σ := Nat) (fun x => x ≤ M + 1) (fun x => ⟨[(1, .sl 8 3 0 t.length cap), (6, .ptr 11 3 0 0), (7, .sl 10 1 0 U.length cp), (9, .ptr 12 3 0 0), (10, .val (.int .i64 ((M : Int) - x)))], [gB s.l, ndB s.ns, osB s.os s.hd, osR s.os s.hd, iB false s.dn, iB false s.up, blB s.tr, iB false s.st, brB false t, .var (scV s), iB true U, .var [.dead, .dead, .dead], .var [.sl 13 1 0 x none, .sl 14 1 0 (min x M) none, .sl 15 1 0 (min x M) none], .arr true 3 1 x (intF (FN x)), .arr true 3 1 (min x M) (intF (FT (min x M))), .arr true 3 1 (min x M) (intF (FB (min x M)))]⟩) (fun x => M + 1 - x) (0) ?_ ?_ ?_
   ·omega
   ·simp only [Nat.zero_min, hN0, hT0, hB0]
    (apply le_mk [some 0, some 1, some 2, some 3, some 4, some 5, some 6, some 7, some 8, some 9, some 10, some 11, some 12, none, none, none]; exact AS; any_goals (apply okIx_mk; rfl))
   rintro j hj
   have hzj : 0 + Int.toNat ((M : Int) - j) = M - j := by omega
   by_cases hj1 : j < M
   ·have hm1 : min j M = j := by omega
    have hm2 : min (j + 1) M = j + 1 := by omega
    rw [hm1]
    have hu := hUl (M - j - 1) (by omega)
    have hw : 0 + (IntKind.i64.wrap ((M : Int) - j - 1)).toNat = M - j - 1 := by rw [IntKind.wrap_i64]; omega
    have n1 : FN (j + 1) = FN j ++ [U.getD (0 + Int.toNat ((M : Int) - j)) 0] := by rw [hzj]; exact hNs j
    have n2 : FT (j + 1) = FT j ++ [(t.getD (0 + (U.getD (0 + (IntKind.i64.wrap ((M : Int) - j - 1)).toNat) 0).toNat) br0).t] := by rw [hw, Nat.zero_add]; exact hTs j
    have n3 : FB (j + 1) = FB j ++ [(t.getD (0 + (U.getD (0 + (IntKind.i64.wrap ((M : Int) - j - 1)).toNat) 0).toNat) br0).b] := by rw [hw, Nat.zero_add]; exact hBs j
    rw [← hw] at hu
    have l1 := hNl j
    have l2 := hTl j
    have l3 := hBl j
    (repeat' (first
  | (intro Q h; refine h ?_; clear h Q)
  | (refine bcase_mk (fun hb => ?_) (fun hb => ?_) <;> (try simp only [nS, nT, eq_self, reduceCtorEq] at hb) <;> (try (exfalso; omega)))
  | refine draw_mk (by decide +kernel) ?_
  | refine seq_go ?_
  | refine And.intro (by first | omega | ((try simp only [wS]); omega) | rfl | decide) ?_
  | (apply next_sub (Subtype.mk (j + 1) (by first | omega | (simp only; omega))); (focus ((simp only [hm2, n1, n2, n3]); apply le_mk [some 0, some 1, some 2, some 3, some 4, some 5, some 6, some 7, some 8, some 9, some 10, some 11, some 12, some _, some _, some _]; exact AS; any_goals (apply okIx_mk; rfl))); (all_goals (try (first | (simp only; omega)))))
  ))
   by_cases hj2 : j = M
   ·subst hj2
    rw [Nat.min_self]
    have hm2 : min (j + 1) j = j := by omega
    have n1 : FN (j + 1) = FN j ++ [U.getD (0 + Int.toNat ((j : Int) - j)) 0] := by rw [hzj]; exact hNs j
    have l1 := hNl j
    (repeat' (first
  | (intro Q h; refine h ?_; clear h Q)
  | (refine bcase_mk (fun hb => ?_) (fun hb => ?_) <;> (try simp only [nS, nT, eq_self, reduceCtorEq] at hb) <;> (try (exfalso; omega)))
  | refine draw_mk (by decide +kernel) ?_
  | refine seq_go ?_
  | refine And.intro (by first | omega | ((try simp only [wS]); omega) | rfl | decide) ?_
  | (apply next_sub (Subtype.mk (j + 1) (by first | omega | (simp only; omega))); (focus ((simp only [hm2, n1]); apply le_mk [some 0, some 1, some 2, some 3, some 4, some 5, some 6, some 7, some 8, some 9, some 10, some 11, some 12, some _, some _, some _]; exact AS; any_goals (apply okIx_mk; rfl))); (all_goals (try (first | (simp only; omega)))))
  ))
   obtain rfl : j = M + 1 := by omega
   have hm1 : min (M + 1) M = M := by omega
   rw [hm1]
   (repeat' (first
  | (intro Q h; refine h ?_; clear h Q)
  | (refine bcase_mk (fun hb => ?_) (fun hb => ?_) <;> (try simp only [nS, nT, eq_self, reduceCtorEq] at hb) <;> (try (exfalso; omega)))
  | refine seq_go ?_
  | (apply ret_mk [some 0, some 1, some 2, some 3, some 4, some 5, some 6, some 7, some 8, some 13, some 14, some 15]; exact AS; any_goals (apply okIx_mk; rfl))
  ))
  ·rw [if_pos (by rw [hze, Nat.zero_add] at hh; exact ⟨hl, hh⟩), show U.length - e - 1 = U.length - (e + 1) by omega] at hee'
   rw [← hze] at hu
   (repeat' (first
  | (intro Q h; refine h ?_; clear h Q)
  | (refine bcase_mk (fun hb => ?_) (fun hb => ?_) <;> (try simp only [nS, nT, eq_self, reduceCtorEq] at hb) <;> (try (exfalso; (first | omega | (rw [hh] at hb; cases hb)); done)))
  | refine draw_mk (by decide +kernel) ?_
  | refine seq_go ?_
  | refine And.intro (by first | omega | ((try simp only [wS]); omega) | rfl | decide) ?_
  | (apply next_sub (Subtype.mk (e + 1) ⟨by omega, by omega, hee'.symm⟩); (focus (apply le_mk [some 0, some 1, some 2, some 3, some 4, some 5, some 6, some 7, some 8, some 9, some 10, some 11]; exact AS; any_goals (apply okIx_mk; rfl))); (all_goals (try (first | (simp only; omega)))))
  ))
 ·have hWe : W (U.length - 1) 1 = e := by
   rw [← hee]
   rcases Nat.lt_or_ge 0 (U.length - e) with h | h
   ·rw [show U.length - e = U.length - e - 1 + 1 by omega, hEs, if_neg (fun h' => hl h'.1)]
   ·rw [show U.length - e = 0 by omega, hE0]
  have hMe : M = U.length - 1 := by omega
  (repeat' (first
  | (intro Q h; refine h ?_; clear h Q)
  | (refine bcase_mk (fun hb => ?_) (fun hb => ?_) <;> (try simp only [nS, nT, eq_self, reduceCtorEq] at hb) <;> (try (exfalso; omega)))
  | refine draw_mk (by decide +kernel) ?_
  | refine seq_go ?_
  ))
  refine loop_inv (σ := Nat) (fun x => x ≤ M + 1) (fun x => ⟨[(1, .sl 8 3 0 t.length cap), (6, .ptr 11 3 0 0), (7, .sl 10 1 0 U.length cp), (9, .ptr 12 3 0 0), (10, .val (.int .i64 ((M : Int) - x)))], [gB s.l, ndB s.ns, osB s.os s.hd, osR s.os s.hd, iB false s.dn, iB false s.up, blB s.tr, iB false s.st, brB false t, .var (scV s), iB true U, .var [.dead, .dead, .dead], .var [.sl 13 1 0 x none, .sl 14 1 0 (min x M) none, .sl 15 1 0 (min x M) none], .arr true 3 1 x (intF (FN x)), .arr true 3 1 (min x M) (intF (FT (min x M))), .arr true 3 1 (min x M) (intF (FB (min x M)))]⟩) (fun x => M + 1 - x) (0) ?_ ?_ ?_
  ·omega
  ·simp only [Nat.zero_min, hN0, hT0, hB0]
   (apply le_mk [some 0, some 1, some 2, some 3, some 4, some 5, some 6, some 7, some 8, some 9, some 10, some 11, some 12, none, none, none]; exact AS; any_goals (apply okIx_mk; rfl))
  rintro j hj
  have hzj : 0 + Int.toNat ((M : Int) - j) = M - j := by omega
  by_cases hj1 : j < M
  ·have hm1 : min j M = j := by omega
   have hm2 : min (j + 1) M = j + 1 := by omega
   rw [hm1]
   have hu := hUl (M - j - 1) (by omega)
   have hw : 0 + (IntKind.i64.wrap ((M : Int) - j - 1)).toNat = M - j - 1 := by rw [IntKind.wrap_i64]; omega
   have n1 : FN (j + 1) = FN j ++ [U.getD (0 + Int.toNat ((M : Int) - j)) 0] := by rw [hzj]; exact hNs j
   have n2 : FT (j + 1) = FT j ++ [(t.getD (0 + (U.getD (0 + (IntKind.i64.wrap ((M : Int) - j - 1)).toNat) 0).toNat) br0).t] := by rw [hw, Nat.zero_add]; exact hTs j
   have n3 : FB (j + 1) = FB j ++ [(t.getD (0 + (U.getD (0 + (IntKind.i64.wrap ((M : Int) - j - 1)).toNat) 0).toNat) br0).b] := by rw [hw, Nat.zero_add]; exact hBs j
   rw [← hw] at hu
   have l1 := hNl j
   have l2 := hTl j
   have l3 := hBl j
   (repeat' (first
  | (intro Q h; refine h ?_; clear h Q)
  | (refine bcase_mk (fun hb => ?_) (fun hb => ?_) <;> (try simp only [nS, nT, eq_self, reduceCtorEq] at hb) <;> (try (exfalso; omega)))
  | refine draw_mk (by decide +kernel) ?_
  | refine seq_go ?_
  | refine And.intro (by first | omega | ((try simp only [wS]); omega) | rfl | decide) ?_
  | (apply next_sub (Subtype.mk (j + 1) (by first | omega | (simp only; omega))); (focus ((simp only [hm2, n1, n2, n3]); apply le_mk [some 0, some 1, some 2, some 3, some 4, some 5, some 6, some 7, some 8, some 9, some 10, some 11, some 12, some _, some _, some _]; exact AS; any_goals (apply okIx_mk; rfl))); (all_goals (try (first | (simp only; omega)))))
  ))
  by_cases hj2 : j = M
  ·subst hj2
   rw [Nat.min_self]
   have hm2 : min (j + 1) j = j := by omega
   have n1 : FN (j + 1) = FN j ++ [U.getD (0 + Int.toNat ((j : Int) - j)) 0] := by rw [hzj]; exact hNs j
   have l1 := hNl j
   (repeat' (first
  | (intro Q h; refine h ?_; clear h Q)
  | (refine bcase_mk (fun hb => ?_) (fun hb => ?_) <;> (try simp only [nS, nT, eq_self, reduceCtorEq] at hb) <;> (try (exfalso; omega)))
  | refine draw_mk (by decide +kernel) ?_
  | refine seq_go ?_
  | refine And.intro (by first | omega | ((try simp only [wS]); omega) | rfl | decide) ?_
  | (apply next_sub (Subtype.mk (j + 1) (by first | omega | (simp only; omega))); (focus ((simp only [hm2, n1]); apply le_mk [some 0, some 1, some 2, some 3, some 4, some 5, some 6, some 7, some 8, some 9, some 10, some 11, some 12, some _, some _, some _]; exact AS; any_goals (apply okIx_mk; rfl))); (all_goals (try (first | (simp only; omega)))))
  ))
  obtain rfl : j = M + 1 := by omega
  have hm1 : min (M + 1) M = M := by omega
  rw [hm1]
  (repeat' (first
  | (intro Q h; refine h ?_; clear h Q)
  | (refine bcase_mk (fun hb => ?_) (fun hb => ?_) <;> (try simp only [nS, nT, eq_self, reduceCtorEq] at hb) <;> (try (exfalso; omega)))
  | refine seq_go ?_
  | (apply ret_mk [some 0, some 1, some 2, some 3, some 4, some 5, some 6, some 7, some 8, some 13, some 14, some 15]; exact AS; any_goals (apply okIx_mk; rfl))
  ))
end Go.Vx.L58
set_option maxRecDepth 100000
namespace Go.Vx.L58
open Go Go.Proofs
def fiR (l : List Int) (x : Nat) : List Int := List.replicate (l.length - x) 0 ++ (l.take x).reverse
theorem fiR_len (l : List Int) (x : Nat) (h : x ≤ l.length) : (fiR l x).length = l.length := by
 unfold fiR; simp; omega
theorem fiR_0 (l : List Int) : fiR l 0 = List.replicate l.length 0 := by simp [fiR]
theorem fiR_all (l : List Int) : fiR l l.length = l.reverse := by simp [fiR]
theorem fiR_succ (l : List Int) (x : Nat) (h : x < l.length) : fiR l (x + 1) = (fiR l x).set (l.length - 1 - x) (l.getD x 0) := by
 unfold fiR
 rw [List.set_append_left _ _ (by simp; omega)]
 have e1 : l.take (x + 1) = l.take x ++ [l.getD x 0] := by
  rw [List.getD_eq_getElem?_getD, List.getElem?_eq_getElem h, Option.getD_some]; exact (List.take_append_getElem h).symm
 rw [e1, List.reverse_append]
 have e2 : (List.replicate (l.length - x) (0 : Int)).set (l.length - 1 - x) (l.getD x 0) = List.replicate (l.length - (x + 1)) 0 ++ [l.getD x 0] := by
  rw [show l.length - x = (l.length - (x + 1)) + 1 by omega, List.replicate_succ', List.set_append_right _ _ (by simp; omega)]
  simp
  rw [show l.length - 1 - x - (l.length - (x + 1)) = 0 by omega]; rfl
 rw [e2, List.append_assoc]; rfl
set_option maxHeartbeats 4000000 in
theorem reversed_ok (l : List Int) (cap : Option Nat) (hl : l.length ≤ 1000) :
  Runs Tryz.prog 128 [.sl 0 1 0 l.length cap] [iB false l] (Det (.sl 1 1 0 l.length none) [iB false l, .arr true 3 1 l.length (intF l.reverse)]) := by
 have h0 := fiR_0 l
 have ha := fiR_all l
 have hs := fun x h => fiR_succ l x h
 have hlen := fun x h => fiR_len l x h
 rw [← ha]
 generalize fiR l = R at *
 refine Runs.mk tabOK Tryz.call128 Tryz.func128 rfl Tryz.ntmps128 Tryz.results128 rfl ?_
 (repeat' (first
  | (intro Q h; refine h ?_; clear h Q)
  | refine seq_go ?_
  | refine And.intro (by first | omega | ((try simp only [wS]); omega) | rfl | decide) ?_
  ))
 refine loop_inv (σ := Nat) (fun x => x ≤ l.length) (fun x => ⟨[(0, .sl 0 1 0 l.length cap), (3, .sl 1 1 0 l.length none), (9, .sl 0 1 0 l.length cap), (10, .val (.int .i64 l.length)), (11, .val (.int .i64 x))], [iB false l, .arr true 3 1 l.length (intF (R x))]⟩) (fun x => l.length - x) (0) ?_ ?_ ?_
 ·omega
 ·(apply le_mk [some 0, some 1]; (focus (iterate 2 (all_goals (repeat' (first | exact trivial | (intro Q h; refine h ?_; clear h Q) | refine And.intro ?_ ?_ | exact sub_sl rfl rfl rfl | exact sub_refl_val _ _ | exact row_same rfl rfl rfl ))))); any_goals (apply okIx_mk; rfl))
  all_goals exact row_rep (x := (0 : Int)) (subL_cons (sub_int rfl) subL_nil) h0 rfl
 rintro k hk
 by_cases hkl : k < l.length
 ·have hz : 0 + Int.toNat (k : Int) = k := by omega
  have hi : 0 + (IntKind.i64.wrap (IntKind.i64.wrap ((l.length : Int) - 1) - k)).toNat = l.length - 1 - k := by rw [IntKind.wrap_i64, IntKind.wrap_i64]; omega
  have hsk := hs k hkl
  have hlk := hlen k hk
  have hlk1 := hlen (k + 1) hkl
  (repeat' (first
  | (intro Q h; refine h ?_; clear h Q)
  | (refine bcase_mk (fun hb => ?_) (fun hb => ?_) <;> (try simp only [nS, nT, eq_self, reduceCtorEq] at hb) <;> (try (exfalso; omega)))
  | refine seq_go ?_
  | refine And.intro (by first | omega | ((try simp only [wS]); omega) | rfl | decide) ?_
  | (apply next_sub (Subtype.mk (k + 1) _); (focus (apply le_mk [some 0, some 1]; (focus (iterate 2 (all_goals (repeat' (first | exact trivial | (intro Q h; refine h ?_; clear h Q) | refine And.intro ?_ ?_ | exact sub_sl rfl rfl rfl | exact sub_refl_val _ _ | exact row_same rfl rfl rfl | ((refine sub_int ?_); first | with_reducible rfl | omega | ((try simp only [wS]); omega) | rfl) ))))); any_goals (apply okIx_mk; rfl))); (all_goals (try (first | omega | (simp only; omega)))))
  ))
  all_goals exact row_setl (x := l.getD k 0) (by rw [hi]; exact hsk) (subL_cons (by rw [hz]; exact sub_refl_val _ _) subL_nil) (by rw [hi, hlk]; omega) rfl hlk1.symm hlk.symm
 ·obtain rfl : k = l.length := by omega
  (repeat' (first
  | (intro Q h; refine h ?_; clear h Q)
  | (refine bcase_mk (fun hb => ?_) (fun hb => ?_) <;> (try simp only [nS, nT, eq_self, reduceCtorEq] at hb) <;> (try (exfalso; omega)))
  | (apply ret_mk [some 0, some 1]; exact AS; any_goals (apply okIx_mk; rfl))
  ))
structure Wy where
 N : List Int
 T : List Int
 B : List Int
abbrev wyA (w : Wy) (c1 c2 c3 : Option Nat) (b : Nat) : AV := .agg [.sl b 1 0 w.N.length c1, .sl (b + 1) 1 0 w.T.length c2, .sl (b + 2) 1 0 w.B.length c3]
abbrev wyB (w : Wy) : List Blk := [iB false w.N, iB false w.T, iB false w.B]
theorem legs_s (w : Wy) (c1 c2 c3 : Option Nat) :
  Runs Tryz.prog 86 [wyA w c1 c2 c3 0, .ifc 104 .dead] (wyB w) (Det (.tup [.sl 0 1 0 w.N.length c1, .sl 1 1 0 w.T.length c2]) (wyB w)) := by
 refine Runs.mk tabOK Tryz.call86 Tryz.func86 rfl Tryz.ntmps86 Tryz.results86 rfl ?_
 (repeat' (first
  | (intro Q h; refine h ?_; clear h Q)
  | refine draw_mk (by decide +kernel) ?_
  | (apply ret_mk [some 0, some 1, some 2]; exact AS; any_goals (apply okIx_mk; rfl))
  ))
theorem legs_r (w : Wy) (c1 c2 c3 : Option Nat) (hN : w.N.length ≤ 1000) (hB : w.B.length ≤ 1000) :
  Runs Tryz.prog 86 [wyA w c1 c2 c3 0, .ifc 119 .dead] (wyB w) (Det (.tup [.sl 3 1 0 w.N.length none, .sl 4 1 0 w.B.length none]) [iB false w.N, iB false w.T, iB false w.B, .arr true 3 1 w.N.length (intF w.N.reverse), .arr true 3 1 w.B.length (intF w.B.reverse)]) := by
 have h1 := reversed_ok w.N c1 hN
 have h2 := reversed_ok w.B c3 hB
 refine Runs.mk tabOK Tryz.call86 Tryz.func86 rfl Tryz.ntmps86 Tryz.results86 rfl ?_
 (repeat' (first
  | (intro Q h; refine h ?_; clear h Q)
  | refine draw_mk (by decide +kernel) ?_
  | ((first | apply calld_detx [some 0] (h1)); exact AS; (any_goals (first | (apply nodup_mk2; rfl) )))
  | ((first | apply calld_detx [some 2] (h2)); exact AS; (any_goals (first | (apply nodup_mk2; rfl) )))
  | (apply ret_mk [some 0, some 1, some 2, some 4, some 5]; exact AS; any_goals (apply okIx_mk; rfl))
  ))
end Go.Vx.L58
