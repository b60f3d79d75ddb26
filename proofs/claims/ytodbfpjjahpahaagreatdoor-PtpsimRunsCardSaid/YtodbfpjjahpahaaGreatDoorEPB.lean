/- Lemmas of a small executor for the model, and contracts of functions, used for the law that this claim proves. No condition. -/
import Derived.Test.YtodbfpjjahpahaaGreatDoorEPA
import Derived.Test.YtodbfpjjahpahaaGreatDoorEEAC
import Derived.Test.YtodbfpjjahpahaaGreatDoorEW3
set_option linter.unusedSimpArgs false
set_option linter.unusedVariables false
set_option maxRecDepth 100000
namespace Go.Vx.L58
open Go Go.Proofs
section
variable {ns : List Nd} {l : List Ed}
theorem c1d (M : Mem) (x : Nat) : ∀ (L : List Int) (acc : List Mm), (L.foldl (lxP M x) acc).length <= acc.length + L.length
 | [], acc => by simp
 | p :: L, acc => by
  rw [List.foldl_cons]
  have := c1d M x L (lxP M x acc p)
  have h2 : (lxP M x acc p).length <= acc.length + 1 := by
   unfold lxP; split
   ·simp
   ·omega
  simp only [List.length_cons]; omega
theorem c4j (M : Mem) : ∀ x, (lxA (rsN ns l) M x).length <= 8 * x
 | 0 => by simp [lxA]
 | x + 1 => by
  have h1 := c4j M x
  have h2 := c1d M x ((rsN ns l).getD x []) (lxA (rsN ns l) M x)
  have : ((rsN ns l).getD x []).length <= 8 := by
   by_cases hx : x < ns.length
   ·rw [a5m _ _ _ _ hx]; exact b3v _ _ _
   ·rw [List.getD_eq_getElem?_getD, List.getElem?_eq_none (by rw [a4a]; omega)]; simp
  rw [lxA]; omega
theorem d6b {M : Mem} (hV : VS ns l M) : ∀ m ∈ lxA (rsN ns l) M ns.length, wfD m.set := fun m hm => by
 obtain ⟨x, p, _, _, h⟩ := (c6r (ns := ns) (l := l) M ns.length).mem m hm
 exact (hV x p _ _ h).2
theorem c8u (hN : NOK ns l) {M : Mem} (hV : VS ns l M) {rd : Int} (hr : 0 <= rd /\ rd <= 1073741824) : enE ns.length l ns rd (lxA (rsN ns l) M ns.length) = 0 := by
 unfold enE
 rw [if_neg (by rw [hN.ck]; omega), if_neg (by omega), if_pos (d3f hV)]
theorem c78 (hN : NOK ns l) {s : MS} (hS : SOK ns (a6w ns l) s) (t : Nat) : VS ns l ((a1v ns l).run (a2a s) t) := by
 obtain ⟨s', h1, h2⟩ := c15 hN s hS rfl t
 rw [<- h2]; exact d3t h1
theorem c2y : a2a (b0p []) = fun _ _ => none := by
 funext x p
 exact if_neg (by show ¬ (([] : List (List Int)).contains _ = true); simp)
end
abbrev bm : Br := ⟨-1, 0, 0⟩
def brK (s : Scn) (C : List Int) (i : Nat) : Nat -> Br
 | 0 => bm
 | k + 1 => if C.getD k 0 = 6 then upF s i ((k : Int) + 1) else brK s C i k
def b3d (s : Scn) : List Mm := lxA (rsN s.ns s.l) ((a1v s.ns s.l).run (a2a (b0p [])) (s.ns.length : Int).toNat) s.ns.length
def cdS (s : Scn) (i : Nat) : List Int := a7s (owD (s.ns.getD i nd0)) (hrX (b0p (b3d s)) i 8)
theorem c84 (s : Scn) (i : Nat) : (cdS s i).length = 8 := by
 unfold cdS
 rw [a2p]; exact a8f _ _ _
def trI (s : Scn) (n x k : Nat) : List Br := (List.range n).map fun i => if i < x then brK s (cdS s i) i 8 else if i = x then brK s (cdS s i) i k else bm
def trZ (n x : Nat) : List Br := (List.range n).map fun i => if i < x then bm else br0
abbrev trS (s : Scn) : List Br := trI s s.ns.length s.ns.length 0
theorem b3z {α : Type} (n : Nat) (f : Nat -> α) : ((List.range n).map f).length = n := by simp
theorem a2r {α : Type} (n : Nat) (f : Nat -> α) (d : α) (i : Nat) (h : i < n) : ((List.range n).map f).getD i d = f i := by
 rw [List.getD_eq_getElem?_getD, List.getElem?_map, List.getElem?_range h]; rfl
theorem a5c {α : Type} (n : Nat) (f : Nat -> α) (d : α) (i : Nat) (h : ¬ i < n) : ((List.range n).map f).getD i d = d := by
 rw [List.getD_eq_getElem?_getD, List.getElem?_eq_none (by simpa using h)]; rfl
theorem b6n {α : Type} {n : Nat} {f g : Nat -> α} (h : ∀ i, i < n -> f i = g i) : (List.range n).map f = (List.range n).map g :=
 List.map_congr_left fun i hi => h i (List.mem_range.1 hi)
theorem b34 (s : Scn) (n x k : Nat) : (trI s n x k).length = n := b3z n _
theorem c96 (n x : Nat) : (trZ n x).length = n := b3z n _
theorem d5c (n : Nat) : trZ n 0 = List.replicate n br0 := by
 refine List.ext_getElem (by simp [trZ]) fun k h1 h2 => ?_
 simp [trZ]
theorem d6e (s : Scn) (n : Nat) : trZ n n = trI s n 0 0 := b6n fun i hi => by
 rw [if_pos hi, if_neg (by omega)]
 split <;> rfl
theorem d5i (s : Scn) (n x : Nat) : trI s n x 8 = trI s n (x + 1) 0 := b6n fun i _ => by
 by_cases h : i < x
 ·rw [if_pos h, if_pos (by omega)]
 ·rw [if_neg h]
  by_cases h2 : i = x
  ·rw [if_pos h2, if_pos (by omega)]
  ·rw [if_neg h2, if_neg (by omega)]
   split <;> rfl
theorem d1u (s : Scn) (n x k : Nat) (h : (cdS s x).getD k 0 ≠ 6) : trI s n x (k + 1) = trI s n x k := b6n fun i _ => by
 by_cases h1 : i < x
 ·rw [if_pos h1, if_pos h1]
 ·rw [if_neg h1, if_neg h1]
  by_cases h2 : i = x
  ·subst h2
   rw [if_pos rfl, if_pos rfl, brK, if_neg h]
  ·rw [if_neg h2, if_neg h2]
theorem c7y {ρ : Nat -> Option Nat} {L L' : List Br} {x n n' : Nat} {a b c : Int} {q : Nat} (hq : q = x) (ho : ∀ k, k ≠ x -> L'.getD k br0 = L.getD k br0) (hx : L'.getD x br0 = ⟨a, b, c⟩) (hn : n' = n) :
  a3v ρ (.arr true 95 3 n (a2e brC br0 L')) (.arr true 95 3 n' fun i' j' => bif Nat.beq i' q && (Nat.ble 0 j' && Nat.blt j' (0 + 3)) then [AV.val (.int .i64 a), .val (.int .i64 b), .val (.int .i64 c)].getD (j' - 0) .dead else a2e brC br0 L i' j') := by
 subst hq
 refine b3q q (l := L) ho ?_ (fun i hi j => ?_) hn
 ·rw [hx]
  refine c9e ?_ ?_ ?_ <;> (simp only [Nat.beq_refl]; exact a0b _ _)
 ·rw [show Nat.beq i q = false from a7f hi]; rfl
theorem c9a (n x : Nat) (hx : x < n) : (∀ k, k ≠ x -> (trZ n (x + 1)).getD k br0 = (trZ n x).getD k br0) /\ (trZ n (x + 1)).getD x br0 = ⟨-1, 0, 0⟩ := by
 refine ⟨fun k hk => ?_, ?_⟩
 ·by_cases h : k < n
  ·unfold trZ
   rw [a2r _ _ _ _ h, a2r _ _ _ _ h]
   by_cases h2 : k < x
   ·rw [if_pos h2, if_pos (by omega)]
   ·rw [if_neg h2, if_neg (by omega)]
  ·unfold trZ
   rw [a5c _ _ _ _ h, a5c _ _ _ _ h]
 ·unfold trZ
  rw [a2r _ _ _ _ hx, if_pos (by omega)]
theorem d0h (s : Scn) (n x k : Nat) (hx : x < n) (h : (cdS s x).getD k 0 = 6) : (∀ i, i ≠ x -> (trI s n x (k + 1)).getD i br0 = (trI s n x k).getD i br0) /\ (trI s n x (k + 1)).getD x br0 = upF s x ((k : Int) + 1) := by
 refine ⟨fun i hi => ?_, ?_⟩
 ·unfold trI
  by_cases h : i < n
  ·rw [a2r _ _ _ _ h, a2r _ _ _ _ h]
   by_cases h2 : i < x
   ·rw [if_pos h2, if_pos h2]
   ·rw [if_neg h2, if_neg h2, if_neg hi, if_neg hi]
  ·rw [a5c _ _ _ _ h, a5c _ _ _ _ h]
 ·unfold trI
  rw [a2r _ _ _ _ hx, if_neg (by omega), if_pos rfl, brK, if_pos h]
theorem a2l {s : Scn} (h : ckS s = 0) : ckE s.n s.l s.ns = 0 /\ (s.os.length = s.ns.length /\ s.tr.length = s.ns.length /\ s.st.length = s.ns.length /\ s.dn.length = s.l.length /\ s.up.length = s.l.length) /\ b3y s s.os.length 0 = 0 /\ b6s s s.l.length 0 = 0 := by
 unfold ckS at h
 by_cases c1 : ckE s.n s.l s.ns = 0
 rotate_left
 ·rw [if_pos c1] at h; exact absurd h c1
 rw [if_neg (by omega)] at h
 by_cases c2 : s.os.length = s.ns.length /\ s.tr.length = s.ns.length /\ s.st.length = s.ns.length /\ s.dn.length = s.l.length /\ s.up.length = s.l.length
 rotate_left
 ·rw [if_pos c2] at h; omega
 rw [if_neg (by simpa using c2)] at h
 by_cases c3 : b3y s s.os.length 0 = 0
 rotate_left
 ·rw [if_pos c3] at h; exact absurd h c3
 rw [if_neg (by omega)] at h
 exact ⟨c1, c2, c3, h⟩
theorem c1e {l : List Ed} {ns : List Nd} (h : ckE ns.length l ns = 0) : enE ns.length l ns 0 [] = 0 := by
 unfold enE
 rw [if_neg (by omega), if_neg (by omega)]; exact if_pos rfl
end Go.Vx.L58
set_option maxRecDepth 100000
namespace Go.Vx.L58
open Go Go.Proofs
set_option maxHeartbeats 8000000 in
theorem d0k (s : Scn) (ok : SOk s) (hc : ckS s = 0) : Runs Tryz.prog 20 [scA s] (scB s) (Det (.sl 8 3 0 s.ns.length none) [gB s.l, ndB s.ns, osB s.os s.hd, osR s.os s.hd, iB false s.dn, iB false s.up, blB s.tr, iB false s.st, .arr true 95 3 s.ns.length (a2e brC br0 (trS s))]) := by
 have hmx : maxLen = 9223372036854775807 := by decide
 obtain ⟨hck, ⟨L1, L2, L3, L4, L5⟩, _, _⟩ := a2l hc
 obtain ⟨hc1, hc2, _⟩ := a5h hck
 have hN : NOK s.ns s.l := ⟨by rw [hc2]; exact hck, ok.hw⟩
 have hck' : ckE s.ns.length s.l s.ns = 0 := hN.ck
 have hF := fok hN
 have hn24 := hF.n24
 obtain ⟨m', hmm, hmb, hl64, hed⟩ := a4d hc1
 have hst := c7e s.n s.l s.c0 s.ns s.c1
 have he := c1e hck'
 have hr : c0y s.n s.l s.ns 0 [] s.ns.length = 0 := by rw [<- hc2]; unfold c0y; rw [he, if_neg (by decide), if_neg (by omega)]
 have hru := (d3s s.l s.c0 ok.hl s.ns s.c1 ok.hn ok.hw s.n 0 [] none (by decide) (fun m h => by cases h) s.ns.length).2 hr
 have hV := c78 hN (a79 (ns := s.ns) (l := s.l) (ms := []) (by rfl) (fun m h => by cases h)) ((s.ns.length : Int)).toNat
 have hLl := c4j (ns := s.ns) (l := s.l) ((a1v s.ns s.l).run (a2a (b0p [])) ((s.ns.length : Int)).toNat) s.ns.length
 have hco := fun x hx => c53 s.n s.l s.c0 ok.hl s.ns s.c1 ok.hn ok.hw (0 + (s.ns.length : Int)) (b3d s) none (by unfold b3d; omega) (d6b hV) (by rw [<- hc2]; exact c8u hN hV (by omega)) x hx
 have hup := fun (i : Nat) (w : Int) => c31 s (by omega) L4 L5 i w
 have hM' : lsX s.ns.length (prR s.ns.length s.l s.ns.length) ((a1v s.ns s.l).run (a2a (b0p [])) ((s.ns.length : Int)).toNat) = b3d s := rfl
 rw [hM'] at hru
 have hcd : ∀ x, a7s (owD (s.ns.getD x nd0)) (hrX (b0p (b3d s)) x 8) = cdS s x := fun _ => rfl
 simp only [hcd] at hco
 have hcl := c84 s
 have hMl : (b3d s).length = (b3d s).length := rfl
 have hT8 := d5i s s.ns.length
 have hTn := d1u s s.ns.length
 have hTu := fun x k hx h => d0h s s.ns.length x k hx h
 have hTl := b34 s s.ns.length
 have hZl := c96 s.ns.length
 have hZ0 := d5c s.ns.length
 have hZn := d6e s s.ns.length
 have hZu := c9a s.ns.length
 generalize b3d s = M at *
 generalize hTT : trI s s.ns.length = T at *
 generalize hZZ : trZ s.ns.length = Z at *
 generalize hCC : cdS s = C at *
 refine Runs.mk a0k Tryz.call20 Tryz.func20 rfl Tryz.ntmps20 Tryz.results20 rfl ?_
 (repeat' (first
  | refine SP ?_
  | refine a0c ?_
  | refine OB ?_
  ))
 refine a0p (σ := Nat) (fun x => x <= s.ns.length) (fun x => ⟨[(1, .ptr 8 8 0 0), (3, .sl 9 3 0 s.ns.length none), (18, .val (.int .i64 s.ns.length)), (19, .val (.int .i64 x))], [gB s.l, ndB s.ns, osB s.os s.hd, osR s.os s.hd, iB false s.dn, iB false s.up, blB s.tr, iB false s.st, .var (scV s), .arr true 95 3 s.ns.length (a2e brC br0 (Z x))]⟩) (fun x => s.ns.length - x) (0) ?_ ?_ ?_
 ·omega
 ·rw [hZ0]
  (apply a04 [some 0, some 1, some 2, some 3, some 4, some 5, some 6, some 7, some 8, some 9]; (focus (iterate 2 (all_goals (repeat' (first | exact a1f rfl rfl rfl rfl | exact a17 rfl rfl rfl rfl | exact a0g | exact trivial | refine SP ?_ | refine And.intro ?_ ?_ | refine a0d ?_ ?_ | refine a09 ?_ | exact a0z rfl rfl | exact a0r rfl rfl rfl | exact a0b _ _ | exact a0j rfl rfl rfl ))))); any_goals (apply a0e; rfl))
  all_goals exact a9r (x := br0) (a0d (a0f rfl) (a0d (a0f rfl) (a0d (a0f rfl) a0g))) rfl rfl
 rintro k hk
 by_cases hkl : k < s.ns.length
 ·obtain ⟨u1, u2⟩ := hZu k hkl
  (repeat' (first
  | refine SP ?_
  | (apply a0a <;> intro hb <;> (try simp only [nS, nT, eq_self, reduceCtorEq] at hb) <;> (try (exfalso; omega)))
  | refine a0c ?_
  | refine OB ?_
  | (apply a0i (Subtype.mk (k + 1) _); (focus (apply a04 [some 0, some 1, some 2, some 3, some 4, some 5, some 6, some 7, some 8, some 9]; (focus (iterate 2 (all_goals (repeat' (first | exact a1f rfl rfl rfl rfl | exact a17 rfl rfl rfl rfl | exact a0g | exact trivial | refine SP ?_ | refine And.intro ?_ ?_ | refine a0d ?_ ?_ | refine a09 ?_ | exact a0z rfl rfl | exact a0r rfl rfl rfl | exact a0b _ _ | exact a0j rfl rfl rfl | ((refine a0f ?_); first | with_reducible rfl | omega | ((try simp only [wS]); omega) | rfl) ))))); any_goals (apply a0e; rfl))); (all_goals (try (first | omega | (simp only; omega)))))
  ))
  all_goals exact c7y (by omega) u1 u2 rfl
 obtain rfl : k = s.ns.length := by omega
 rw [hZn]
 (repeat' (first
  | refine SP ?_
  | (apply a0a <;> intro hb <;> (try simp only [nS, nT, eq_self, reduceCtorEq] at hb) <;> (try (exfalso; omega)))
  | refine a0q (by decide +kernel) ?_
  | refine a0c ?_
  | ((first | apply a0m [some 0, some 1] (hst)); exact AS; (any_goals (first | (apply a0s; rfl) )))
  | ((first | apply a0m [some 0, some 1, none] (hru)); exact AS; (any_goals (first | (apply a0s; rfl) )))
  ))
 refine a0p (σ := Nat) (fun x => x <= s.ns.length) (fun x => ⟨[(1, .ptr 8 8 0 0), (3, .sl 9 3 0 s.ns.length none), (5, .ptr 11 2 0 0), (42, .val (.int .i64 s.ns.length)), (43, .val (.int .i64 x))], [gB s.l, ndB s.ns, osB s.os s.hd, osR s.os s.hd, iB false s.dn, iB false s.up, blB s.tr, iB false s.st, .var (scV s), .arr true 95 3 s.ns.length (a2e brC br0 (T x 0)), meB true M, .var [.val (.int .i64 (0 + (s.ns.length : Int))), .sl 10 14 0 M.length none]]⟩) (fun x => s.ns.length - x) (0) ?_ ?_ ?_
 ·omega
 ·exact LT [some 0, some 1, some 2, some 3, some 4, some 5, some 6, some 7, some 8, some 9, some 10, some 11]
 rintro v hv
 by_cases hvl : v < s.ns.length
 ·have hco := hco v hvl
  have hcv := hcl v
  have hup := hup v
  have hT8 := hT8 v
  have hTn := hTn v
  have hTu := fun k h => hTu v k hvl h
  generalize hCv : C v = D at *
  (repeat' (first
  | refine SP ?_
  | (apply a0a <;> intro hb <;> (try simp only [nS, nT, eq_self, reduceCtorEq] at hb) <;> (try (exfalso; omega)))
  | refine a0c ?_
  | refine CT [some 0, some 1, some 10] hco ?_
  ))
  refine a0p (σ := Nat) (fun x => x <= 8) (fun x => ⟨[(1, .ptr 8 8 0 0), (3, .sl 9 3 0 s.ns.length none), (5, .ptr 11 2 0 0), (7, .val (.int .i64 v)), (42, .val (.int .i64 s.ns.length)), (43, .val (.int .i64 v)), (54, .sl 12 1 0 8 none), (55, .val (.int .i64 (8 : Nat))), (56, .val (.int .i64 x))], [gB s.l, ndB s.ns, osB s.os s.hd, osR s.os s.hd, iB false s.dn, iB false s.up, blB s.tr, iB false s.st, .var (scV s), .arr true 95 3 s.ns.length (a2e brC br0 (T v x)), meB true M, .var [.val (.int .i64 (0 + (s.ns.length : Int))), .sl 10 14 0 M.length none], iB true D]⟩) (fun x => 8 - x) (0) ?_ ?_ ?_
  ·omega
  ·exact LT [some 0, some 1, some 2, some 3, some 4, some 5, some 6, some 7, some 8, some 9, some 10, some 11, some 12]
  rintro k hk
  by_cases hk8 : k < 8
  ·have hz : 0 + Int.toNat (k : Int) = k := by omega
   have hw : IntKind.i64.wrap ((k : Int) + 1) = (k : Int) + 1 := by rw [IntKind.wrap_i64]; omega
   have hup := hup (IntKind.i64.wrap ((k : Int) + 1))
   by_cases h6 : D.getD (0 + Int.toNat (k : Int)) 0 = 6
   ·obtain ⟨u1, u2⟩ := hTu k (by rw [hz] at h6; exact h6)
    rw [<- hw] at u2
    generalize hU : upF s (v : Int) (IntKind.i64.wrap ((k : Int) + 1)) = U at *
    (repeat' (first
  | refine SP ?_
  | (apply a0a <;> intro hb <;> (try simp only [nS, nT, eq_self, reduceCtorEq] at hb) <;> (try (exfalso; omega)))
  | refine a0c ?_
  | refine OB ?_
  | refine CT [some 0, some 1, some 2, some 3, some 4, some 5, some 6, some 7] hup ?_
  | (apply a0i (Subtype.mk (k + 1) _); (focus (apply a04 [some 0, some 1, some 2, some 3, some 4, some 5, some 6, some 7, some 8, some 9, some 10, some 11, some 12]; (focus (iterate 2 (all_goals (repeat' (first | exact a1f rfl rfl rfl rfl | exact a17 rfl rfl rfl rfl | exact a0g | exact trivial | refine SP ?_ | refine And.intro ?_ ?_ | refine a0d ?_ ?_ | refine a09 ?_ | exact a0z rfl rfl | exact a0r rfl rfl rfl | exact a0b _ _ | exact a0j rfl rfl rfl | ((refine a0f ?_); first | with_reducible rfl | omega | ((try simp only [wS]); omega) | rfl) ))))); any_goals (apply a0e; rfl))); (all_goals (try (first | omega | (simp only; omega)))))
  ))
    all_goals exact c7y (by omega) u1 u2 rfl
   ·have hTn := hTn k (by rw [hz] at h6; exact h6)
    (repeat' (first
  | refine SP ?_
  | (apply a0a <;> intro hb <;> (try simp only [nS, nT, eq_self, reduceCtorEq] at hb) <;> (try (exfalso; omega)))
  | refine a0c ?_
  | refine OB ?_
  | (apply a0i (Subtype.mk (k + 1) (by first | omega | (simp only; omega))); (focus ((simp only [hTn]); exact LT [some 0, some 1, some 2, some 3, some 4, some 5, some 6, some 7, some 8, some 9, some 10, some 11, some 12])); (all_goals (try (first | (simp only; omega)))))
  ))
  ·obtain rfl : k = 8 := by omega
   rw [hT8]
   (repeat' (first
  | refine SP ?_
  | (apply a0a <;> intro hb <;> (try simp only [nS, nT, eq_self, reduceCtorEq] at hb) <;> (try (exfalso; omega)))
  | (apply a0i (Subtype.mk (v + 1) _); (focus (apply a04 [some 0, some 1, some 2, some 3, some 4, some 5, some 6, some 7, some 8, some 9, some 10, some 11]; (focus (iterate 2 (all_goals (repeat' (first | exact a1f rfl rfl rfl rfl | exact a17 rfl rfl rfl rfl | exact a0g | exact trivial | refine SP ?_ | refine And.intro ?_ ?_ | refine a0d ?_ ?_ | refine a09 ?_ | exact a0z rfl rfl | exact a0r rfl rfl rfl | exact a0b _ _ | exact a0j rfl rfl rfl | ((refine a0f ?_); first | with_reducible rfl | omega | ((try simp only [wS]); omega) | rfl) ))))); any_goals (apply a0e; rfl))); (all_goals (try (first | omega | (simp only; omega)))))
  ))
 ·obtain rfl : v = s.ns.length := by omega
  (repeat' (first
  | refine SP ?_
  | (apply a0a <;> intro hb <;> (try simp only [nS, nT, eq_self, reduceCtorEq] at hb) <;> (try (exfalso; omega)))
  | (apply a0v [some 0, some 1, some 2, some 3, some 4, some 5, some 6, some 7, some 9]; (focus (iterate 2 (all_goals (repeat' (first | exact a1f rfl rfl rfl rfl | exact a17 rfl rfl rfl rfl | exact trivial | refine SP ?_ | refine And.intro ?_ ?_ | exact a0r rfl rfl rfl | exact a0j rfl rfl rfl | ((first | show (_ : Nat) = _); first | with_reducible rfl | omega | ((try simp only [wS]); omega) | rfl) | refine a0j rfl ?_ ?_ ))))); any_goals (apply a0e; rfl))
  ))
  all_goals (rw [<- hTT])
end Go.Vx.L58
set_option maxRecDepth 100000
namespace Go.Vx.L58
open Go Go.Proofs
theorem d2z (s : Scn) (n : Nat) (hed : ∀ e ∈ s.l, (0 <= e.a /\ e.a < n) /\ (0 <= e.b /\ e.b < n)) (v w : Int) (hn : 0 < n) : ∀ k i, i + k <= s.l.length -> -1 <= (upW s v w k i).p /\ (upW s v w k i).p < n
 | 0, i, _ => by simp only [upW]; omega
 | k + 1, i, h => by
  have he := hed _ (a2s s.l i ed0 (by omega))
  rw [upW]
  split
  ·simp only; omega
  ·split
   ·simp only; omega
   ·exact d2z s n hed v w hn k (i + 1) (by omega)
theorem d2v (s : Scn) (n : Nat) (hed : ∀ e ∈ s.l, (0 <= e.a /\ e.a < n) /\ (0 <= e.b /\ e.b < n)) (hn : 0 < n) (C : List Int) (i : Nat) : ∀ k, -1 <= (brK s C i k).p /\ (brK s C i k).p < n
 | 0 => by simp only [brK]; omega
 | k + 1 => by
  rw [brK]
  split
  ·exact d2z s n hed _ _ hn _ _ (by omega)
  ·exact d2v s n hed hn C i k
theorem a16 {s : Scn} (ok : SOk s) (hc : ckS s = 0) : NOK s.ns s.l /\ (1 <= s.ns.length /\ s.ns.length <= 24) /\ s.l.length <= 1000 /\ (∀ e ∈ s.l, (0 <= e.a /\ e.a < (s.ns.length : Int)) /\ (0 <= e.b /\ e.b < (s.ns.length : Int))) := by
 obtain ⟨hck, _, _, _⟩ := a2l hc
 obtain ⟨hc1, hc2, _⟩ := a5h hck
 have hN : NOK s.ns s.l := ⟨by rw [hc2]; exact hck, ok.hw⟩
 obtain ⟨m', hmm, hmb, hl64, hed⟩ := a4d hc1
 have hn := hN.parts.2.1
 refine ⟨hN, hn, by omega, fun e he => ?_⟩
 have := hed e he
 unfold c0m at this
 omega
theorem c7u {s : Scn} (ok : SOk s) (hc : ckS s = 0) : d4u (trS s) := by
 obtain ⟨_, hn, _, hed⟩ := a16 ok hc
 have hl := b34 s s.ns.length s.ns.length 0
 show (trI s s.ns.length s.ns.length 0).length <= 24 /\ ∀ i, i < (trI s s.ns.length s.ns.length 0).length -> ((trI s s.ns.length s.ns.length 0).getD i br0).p < ((trI s s.ns.length s.ns.length 0).length : Int)
 rw [hl]
 refine ⟨hn.2, fun i hi => ?_⟩
 unfold trI
 rw [a2r _ _ _ _ hi, if_pos hi]
 exact (d2v s s.ns.length hed (by omega) _ i 8).2
end Go.Vx.L58
set_option maxRecDepth 100000
namespace Go.Vx.L58
open Go Go.Proofs
def wE (tr : List Bool) (U : List Int) : Nat -> Nat -> Nat
 | 0, e => e
 | f + 1, e => if e + 1 < U.length /\ tr.getD (U.getD e 0).toNat false = true then wE tr U f (e + 1) else e
theorem c5x (tr : List Bool) (U : List Int) : ∀ f e, e <= wE tr U f e /\ wE tr U f e <= e + f
 | 0, e => by simp [wE]
 | f + 1, e => by
  rw [wE]
  split
  ·have := c5x tr U f (e + 1); omega
  ·omega
def wM (tr : List Bool) (U : List Int) : Nat := min (wE tr U (U.length - 1) 1) (U.length - 1)
def rvF (f : Nat -> Int) (m : Nat) : Nat -> List Int
 | 0 => []
 | j + 1 => rvF f m j ++ [f (m - j)]
theorem a5z (f : Nat -> Int) (m : Nat) : ∀ j, (rvF f m j).length = j
 | 0 => rfl
 | j + 1 => by rw [rvF, List.length_append, a5z f m j]; rfl
theorem a62 (f : Nat -> Int) (m : Nat) : ∀ j i, i < j -> (rvF f m j).getD i 0 = f (m - i)
 | 0, i, h => by omega
 | j + 1, i, h => by
  have hl := a5z f m j
  rw [rvF, List.getD_eq_getElem?_getD]
  by_cases hi : i < j
  ·rw [List.getElem?_append_left (by omega), <- List.getD_eq_getElem?_getD, a62 f m j i hi]
  ·obtain rfl : i = j := by omega
   rw [List.getElem?_append_right (by omega), hl, Nat.sub_self]; rfl
def wN (U : List Int) (m : Nat) : Nat -> List Int := rvF (fun i => U.getD i 0) m
def wT (t : List Br) (U : List Int) (m : Nat) : Nat -> List Int := rvF (fun i => (t.getD (U.getD (i - 1) 0).toNat br0).t) m
def wB (t : List Br) (U : List Int) (m : Nat) : Nat -> List Int := rvF (fun i => (t.getD (U.getD (i - 1) 0).toNat br0).b) m
set_option maxHeartbeats 8000000 in
theorem c6e (s : Scn) (t : List Br) (ht : d4u t) (htr : s.tr.length = t.length) (cap : Option Nat) (v : Nat) (hv : v < t.length) :
  Runs Tryz.prog 21 [scA s, .sl 8 3 0 t.length cap, .val (.int .i64 v)] [gB s.l, ndB s.ns, osB s.os s.hd, osR s.os s.hd, iB false s.dn, iB false s.up, blB s.tr, iB false s.st, brB false t]
   (Det (.agg [.sl 9 1 0 (wM s.tr (clF t (t.length - 1) v) + 1) none, .sl 10 1 0 (wM s.tr (clF t (t.length - 1) v)) none, .sl 11 1 0 (wM s.tr (clF t (t.length - 1) v)) none])
    [gB s.l, ndB s.ns, osB s.os s.hd, osR s.os s.hd, iB false s.dn, iB false s.up, blB s.tr, iB false s.st, brB false t, .arr true 3 1 (wM s.tr (clF t (t.length - 1) v) + 1) (a2v (wN (clF t (t.length - 1) v) (wM s.tr (clF t (t.length - 1) v)) (wM s.tr (clF t (t.length - 1) v) + 1))),
     .arr true 3 1 (wM s.tr (clF t (t.length - 1) v)) (a2v (wT t (clF t (t.length - 1) v) (wM s.tr (clF t (t.length - 1) v)) (wM s.tr (clF t (t.length - 1) v)))),
     .arr true 3 1 (wM s.tr (clF t (t.length - 1) v)) (a2v (wB t (clF t (t.length - 1) v) (wM s.tr (clF t (t.length - 1) v)) (wM s.tr (clF t (t.length - 1) v))))]) := by
 have hcl := c6d t ht cap v hv
 have hU := b6b t (t.length - 1) v
 have hUl := fun i hi => c2f ht (t.length - 1) v hv _ (a2s (clF t (t.length - 1) v) i 0 hi)
 have h24 := ht.1
 generalize clF t (t.length - 1) v = U at *
 have hEs : ∀ f e, wE s.tr U (f + 1) e = if e + 1 < U.length /\ s.tr.getD (U.getD e 0).toNat false = true then wE s.tr U f (e + 1) else e := fun _ _ => rfl
 have hE0 : ∀ e, wE s.tr U 0 e = e := fun _ => rfl
 have hEg := c5x s.tr U
 have hMM : wM s.tr U = min (wE s.tr U (U.length - 1) 1) (U.length - 1) := rfl
 generalize hM : wM s.tr U = M at *
 generalize hWE : wE s.tr U = W at *
 have hNs : ∀ j, wN U M (j + 1) = wN U M j ++ [U.getD (M - j) 0] := fun _ => rfl
 have hTs : ∀ j, wT t U M (j + 1) = wT t U M j ++ [(t.getD (U.getD (M - j - 1) 0).toNat br0).t] := fun _ => rfl
 have hBs : ∀ j, wB t U M (j + 1) = wB t U M j ++ [(t.getD (U.getD (M - j - 1) 0).toNat br0).b] := fun _ => rfl
 have hN0 : wN U M 0 = [] := rfl
 have hT0 : wT t U M 0 = [] := rfl
 have hB0 : wB t U M 0 = [] := rfl
 have hNl : ∀ j, (wN U M j).length = j := a5z _ M
 have hTl : ∀ j, (wT t U M j).length = j := a5z _ M
 have hBl : ∀ j, (wB t U M j).length = j := a5z _ M
 generalize wN U M = FN at *
 generalize wT t U M = FT at *
 generalize wB t U M = FB at *
 generalize hcp : d1m U.length = cp at *
 refine Runs.mk a0k Tryz.call21 Tryz.func21 rfl Tryz.ntmps21 Tryz.results21 rfl ?_
 (repeat' (first
  | refine SP ?_
  | refine a0c ?_
  | refine CT [some 8] hcl ?_
  ))
 refine a0p (σ := Nat) (fun x => 1 <= x /\ x <= U.length /\ W (U.length - x) x = W (U.length - 1) 1) (fun x => ⟨[(1, .sl 8 3 0 t.length cap), (3, .ptr 9 8 0 0), (6, .ptr 11 3 0 0), (7, .sl 10 1 0 U.length cp), (8, .val (.int .i64 x))], [gB s.l, ndB s.ns, osB s.os s.hd, osR s.os s.hd, iB false s.dn, iB false s.up, blB s.tr, iB false s.st, brB false t, .var (scV s), iB true U, .var [.dead, .dead, .dead]]⟩) (fun x => U.length - x) (1) ?_ ?_ ?_
 ·exact ⟨by omega, by omega, rfl⟩
 ·(apply a04 [some 0, some 1, some 2, some 3, some 4, some 5, some 6, some 7, some 8, some 9, some _, some _]; exact AS; any_goals (apply a0e; rfl))
 rintro e ⟨he, hel, hee⟩
 have hze : 0 + Int.toNat (e : Int) = e := by omega
 have eL : IntKind.i64.wrap ((U.length : Int) - 1) = (U.length : Int) - 1 := by rw [IntKind.wrap_i64]; omega
 by_cases hl : e + 1 < U.length
 ·have hu := hUl e (by omega)
  have hee' := hEs (U.length - e - 1) e
  rw [show U.length - e - 1 + 1 = U.length - e by omega, hee] at hee'
  cases hh : s.tr.getD (0 + (U.getD (0 + Int.toNat (e : Int)) 0).toNat) false
  ·rw [if_neg (by rw [hze, Nat.zero_add] at hh; rw [hh]; simp)] at hee'
   have hMe : M = e := by omega
   rw [<- hze] at hu
   (repeat' (first
  | refine SP ?_
  | (apply a0a <;> intro hb <;> (try simp only [nS, nT, eq_self, reduceCtorEq] at hb) <;> (try (exfalso; (first | omega | (rw [hh] at hb; cases hb)); done)))
  | refine a0q (by decide +kernel) ?_
  | refine a0c ?_
  | refine OB ?_
  ))
   refine a0p (σ := Nat) (fun x => x <= M + 1) (fun x => ⟨[(1, .sl 8 3 0 t.length cap), (6, .ptr 11 3 0 0), (7, .sl 10 1 0 U.length cp), (9, .ptr 12 3 0 0), (10, .val (.int .i64 ((M : Int) - x)))], [gB s.l, ndB s.ns, osB s.os s.hd, osR s.os s.hd, iB false s.dn, iB false s.up, blB s.tr, iB false s.st, brB false t, .var (scV s), iB true U, .var [.dead, .dead, .dead], .var [.sl 13 1 0 x none, .sl 14 1 0 (min x M) none, .sl 15 1 0 (min x M) none], .arr true 3 1 x (a2v (FN x)), .arr true 3 1 (min x M) (a2v (FT (min x M))), .arr true 3 1 (min x M) (a2v (FB (min x M)))]⟩) (fun x => M + 1 - x) (0) ?_ ?_ ?_
   ·omega
   ·simp only [Nat.zero_min, hN0, hT0, hB0]
    exact LT [some 0, some 1, some 2, some 3, some 4, some 5, some 6, some 7, some 8, some 9, some 10, some 11, some 12, none, none, none]
   rintro j hj
   have hzj : 0 + Int.toNat ((M : Int) - j) = M - j := by omega
   by_cases hj1 : j < M
   ·have hm1 : min j M = j := by omega
    have hm2 : min (j + 1) M = j + 1 := by omega
    rw [hm1]
    have hu := hUl (M - j - 1) (by omega)
    have hw : 0 + (IntKind.i64.wrap ((M : Int) - j - 1)).toNat = M - j - 1 := by rw [IntKind.wrap_i64]; omega
    have n1 : FN (j + 1) = FN j ++ [U.getD (0 + Int.toNat ((M : Int) - j)) 0] := by rw [hzj]; exact hNs j
    have n2 : FT (j + 1) = FT j ++ [(t.getD (0 + (U.getD (0 + (IntKind.i64.wrap ((M : Int) - j - 1)).toNat) 0).toNat) br0).t] := by rw [hw, Nat.zero_add]; exact hTs j
    have n3 : FB (j + 1) = FB j ++ [(t.getD (0 + (U.getD (0 + (IntKind.i64.wrap ((M : Int) - j - 1)).toNat) 0).toNat) br0).b] := by rw [hw, Nat.zero_add]; exact hBs j
    rw [<- hw] at hu
    have l1 := hNl j
    have l2 := hTl j
    have l3 := hBl j
    (repeat' (first
  | refine SP ?_
  | (apply a0a <;> intro hb <;> (try simp only [nS, nT, eq_self, reduceCtorEq] at hb) <;> (try (exfalso; omega)))
  | refine a0q (by decide +kernel) ?_
  | refine a0c ?_
  | refine OB ?_
  | (apply a0i (Subtype.mk (j + 1) (by first | omega | (simp only; omega))); (focus ((simp only [hm2, n1, n2, n3]); apply a04 [some 0, some 1, some 2, some 3, some 4, some 5, some 6, some 7, some 8, some 9, some 10, some 11, some 12, some _, some _, some _]; exact AS; any_goals (apply a0e; rfl))); (all_goals (try (first | (simp only; omega)))))
  ))
   by_cases hj2 : j = M
   ·subst hj2
    rw [Nat.min_self]
    have hm2 : min (j + 1) j = j := by omega
    have n1 : FN (j + 1) = FN j ++ [U.getD (0 + Int.toNat ((j : Int) - j)) 0] := by rw [hzj]; exact hNs j
    have l1 := hNl j
    (repeat' (first
  | refine SP ?_
  | (apply a0a <;> intro hb <;> (try simp only [nS, nT, eq_self, reduceCtorEq] at hb) <;> (try (exfalso; omega)))
  | refine a0q (by decide +kernel) ?_
  | refine a0c ?_
  | refine OB ?_
  | (apply a0i (Subtype.mk (j + 1) (by first | omega | (simp only; omega))); (focus ((simp only [hm2, n1]); apply a04 [some 0, some 1, some 2, some 3, some 4, some 5, some 6, some 7, some 8, some 9, some 10, some 11, some 12, some _, some _, some _]; exact AS; any_goals (apply a0e; rfl))); (all_goals (try (first | (simp only; omega)))))
  ))
   obtain rfl : j = M + 1 := by omega
   have hm1 : min (M + 1) M = M := by omega
   rw [hm1]
   (repeat' (first
  | refine SP ?_
  | (apply a0a <;> intro hb <;> (try simp only [nS, nT, eq_self, reduceCtorEq] at hb) <;> (try (exfalso; omega)))
  | refine a0c ?_
  | exact RT [some 0, some 1, some 2, some 3, some 4, some 5, some 6, some 7, some 8, some 13, some 14, some 15]
  ))
  ·rw [if_pos (by rw [hze, Nat.zero_add] at hh; exact ⟨hl, hh⟩), show U.length - e - 1 = U.length - (e + 1) by omega] at hee'
   rw [<- hze] at hu
   (repeat' (first
  | refine SP ?_
  | (apply a0a <;> intro hb <;> (try simp only [nS, nT, eq_self, reduceCtorEq] at hb) <;> (try (exfalso; (first | omega | (rw [hh] at hb; cases hb)); done)))
  | refine a0q (by decide +kernel) ?_
  | refine a0c ?_
  | refine OB ?_
  | (apply a0i (Subtype.mk (e + 1) ⟨by omega, by omega, hee'.symm⟩); (focus exact LT [some 0, some 1, some 2, some 3, some 4, some 5, some 6, some 7, some 8, some 9, some 10, some 11]); (all_goals (try (first | (simp only; omega)))))
  ))
 ·have hWe : W (U.length - 1) 1 = e := by
   rw [<- hee]
   rcases Nat.lt_or_ge 0 (U.length - e) with h | h
   ·rw [show U.length - e = U.length - e - 1 + 1 by omega, hEs, if_neg (fun h' => hl h'.1)]
   ·rw [show U.length - e = 0 by omega, hE0]
  have hMe : M = U.length - 1 := by omega
  (repeat' (first
  | refine SP ?_
  | (apply a0a <;> intro hb <;> (try simp only [nS, nT, eq_self, reduceCtorEq] at hb) <;> (try (exfalso; omega)))
  | refine a0q (by decide +kernel) ?_
  | refine a0c ?_
  ))
  refine a0p (σ := Nat) (fun x => x <= M + 1) (fun x => ⟨[(1, .sl 8 3 0 t.length cap), (6, .ptr 11 3 0 0), (7, .sl 10 1 0 U.length cp), (9, .ptr 12 3 0 0), (10, .val (.int .i64 ((M : Int) - x)))], [gB s.l, ndB s.ns, osB s.os s.hd, osR s.os s.hd, iB false s.dn, iB false s.up, blB s.tr, iB false s.st, brB false t, .var (scV s), iB true U, .var [.dead, .dead, .dead], .var [.sl 13 1 0 x none, .sl 14 1 0 (min x M) none, .sl 15 1 0 (min x M) none], .arr true 3 1 x (a2v (FN x)), .arr true 3 1 (min x M) (a2v (FT (min x M))), .arr true 3 1 (min x M) (a2v (FB (min x M)))]⟩) (fun x => M + 1 - x) (0) ?_ ?_ ?_
  ·omega
  ·simp only [Nat.zero_min, hN0, hT0, hB0]
   exact LT [some 0, some 1, some 2, some 3, some 4, some 5, some 6, some 7, some 8, some 9, some 10, some 11, some 12, none, none, none]
  rintro j hj
  have hzj : 0 + Int.toNat ((M : Int) - j) = M - j := by omega
  by_cases hj1 : j < M
  ·have hm1 : min j M = j := by omega
   have hm2 : min (j + 1) M = j + 1 := by omega
   rw [hm1]
   have hu := hUl (M - j - 1) (by omega)
   have hw : 0 + (IntKind.i64.wrap ((M : Int) - j - 1)).toNat = M - j - 1 := by rw [IntKind.wrap_i64]; omega
   have n1 : FN (j + 1) = FN j ++ [U.getD (0 + Int.toNat ((M : Int) - j)) 0] := by rw [hzj]; exact hNs j
   have n2 : FT (j + 1) = FT j ++ [(t.getD (0 + (U.getD (0 + (IntKind.i64.wrap ((M : Int) - j - 1)).toNat) 0).toNat) br0).t] := by rw [hw, Nat.zero_add]; exact hTs j
   have n3 : FB (j + 1) = FB j ++ [(t.getD (0 + (U.getD (0 + (IntKind.i64.wrap ((M : Int) - j - 1)).toNat) 0).toNat) br0).b] := by rw [hw, Nat.zero_add]; exact hBs j
   rw [<- hw] at hu
   have l1 := hNl j
   have l2 := hTl j
   have l3 := hBl j
   (repeat' (first
  | refine SP ?_
  | (apply a0a <;> intro hb <;> (try simp only [nS, nT, eq_self, reduceCtorEq] at hb) <;> (try (exfalso; omega)))
  | refine a0q (by decide +kernel) ?_
  | refine a0c ?_
  | refine OB ?_
  | (apply a0i (Subtype.mk (j + 1) (by first | omega | (simp only; omega))); (focus ((simp only [hm2, n1, n2, n3]); apply a04 [some 0, some 1, some 2, some 3, some 4, some 5, some 6, some 7, some 8, some 9, some 10, some 11, some 12, some _, some _, some _]; exact AS; any_goals (apply a0e; rfl))); (all_goals (try (first | (simp only; omega)))))
  ))
  by_cases hj2 : j = M
  ·subst hj2
   rw [Nat.min_self]
   have hm2 : min (j + 1) j = j := by omega
   have n1 : FN (j + 1) = FN j ++ [U.getD (0 + Int.toNat ((j : Int) - j)) 0] := by rw [hzj]; exact hNs j
   have l1 := hNl j
   (repeat' (first
  | refine SP ?_
  | (apply a0a <;> intro hb <;> (try simp only [nS, nT, eq_self, reduceCtorEq] at hb) <;> (try (exfalso; omega)))
  | refine a0q (by decide +kernel) ?_
  | refine a0c ?_
  | refine OB ?_
  | (apply a0i (Subtype.mk (j + 1) (by first | omega | (simp only; omega))); (focus ((simp only [hm2, n1]); apply a04 [some 0, some 1, some 2, some 3, some 4, some 5, some 6, some 7, some 8, some 9, some 10, some 11, some 12, some _, some _, some _]; exact AS; any_goals (apply a0e; rfl))); (all_goals (try (first | (simp only; omega)))))
  ))
  obtain rfl : j = M + 1 := by omega
  have hm1 : min (M + 1) M = M := by omega
  rw [hm1]
  (repeat' (first
  | refine SP ?_
  | (apply a0a <;> intro hb <;> (try simp only [nS, nT, eq_self, reduceCtorEq] at hb) <;> (try (exfalso; omega)))
  | refine a0c ?_
  | exact RT [some 0, some 1, some 2, some 3, some 4, some 5, some 6, some 7, some 8, some 13, some 14, some 15]
  ))
end Go.Vx.L58
set_option maxRecDepth 100000
namespace Go.Vx.L58
open Go Go.Proofs
def fiR (l : List Int) (x : Nat) : List Int := List.replicate (l.length - x) 0 ++ (l.take x).reverse
theorem d0d (l : List Int) (x : Nat) (h : x <= l.length) : (fiR l x).length = l.length := by
 unfold fiR; simp; omega
theorem d6a (l : List Int) : fiR l 0 = List.replicate l.length 0 := by simp [fiR]
theorem c9h (l : List Int) : fiR l l.length = l.reverse := by simp [fiR]
theorem c56 (l : List Int) (x : Nat) (h : x < l.length) : fiR l (x + 1) = (fiR l x).set (l.length - 1 - x) (l.getD x 0) := by
 unfold fiR
 rw [List.set_append_left _ _ (by simp; omega)]
 have e1 : l.take (x + 1) = l.take x ++ [l.getD x 0] := by
  rw [List.getD_eq_getElem?_getD, List.getElem?_eq_getElem h, Option.getD_some]; exact (List.take_append_getElem h).symm
 rw [e1, List.reverse_append]
 have e2 : (List.replicate (l.length - x) (0 : Int)).set (l.length - 1 - x) (l.getD x 0) = List.replicate (l.length - (x + 1)) 0 ++ [l.getD x 0] := by
  rw [show l.length - x = (l.length - (x + 1)) + 1 by omega, List.replicate_succ', List.set_append_right _ _ (by simp; omega)]
  simp
  rw [show l.length - 1 - x - (l.length - (x + 1)) = 0 by omega]; rfl
 rw [e2, List.append_assoc]; rfl
set_option maxHeartbeats 4000000 in
theorem b0x (l : List Int) (cap : Option Nat) (hl : l.length <= 1000) :
  Runs Tryz.prog 128 [.sl 0 1 0 l.length cap] [iB false l] (Det (.sl 1 1 0 l.length none) [iB false l, .arr true 3 1 l.length (a2v l.reverse)]) := by
 have h0 := d6a l
 have ha := c9h l
 have hs := fun x h => c56 l x h
 have hlen := fun x h => d0d l x h
 rw [<- ha]
 generalize fiR l = R at *
 refine Runs.mk a0k Tryz.call128 Tryz.func128 rfl Tryz.ntmps128 Tryz.results128 rfl ?_
 (repeat' (first
  | refine SP ?_
  | refine a0c ?_
  | refine OB ?_
  ))
 refine a0p (σ := Nat) (fun x => x <= l.length) (fun x => ⟨[(0, .sl 0 1 0 l.length cap), (3, .sl 1 1 0 l.length none), (9, .sl 0 1 0 l.length cap), (10, .val (.int .i64 l.length)), (11, .val (.int .i64 x))], [iB false l, .arr true 3 1 l.length (a2v (R x))]⟩) (fun x => l.length - x) (0) ?_ ?_ ?_
 ·omega
 ·(apply a04 [some 0, some 1]; (focus (iterate 2 (all_goals (repeat' (first | exact trivial | refine SP ?_ | refine And.intro ?_ ?_ | exact a0r rfl rfl rfl | exact a0b _ _ | exact a0j rfl rfl rfl ))))); any_goals (apply a0e; rfl))
  all_goals exact a9r (x := (0 : Int)) (a0d (a0f rfl) a0g) h0 rfl
 rintro k hk
 by_cases hkl : k < l.length
 ·have hz : 0 + Int.toNat (k : Int) = k := by omega
  have hi : 0 + (IntKind.i64.wrap (IntKind.i64.wrap ((l.length : Int) - 1) - k)).toNat = l.length - 1 - k := by rw [IntKind.wrap_i64, IntKind.wrap_i64]; omega
  have hsk := hs k hkl
  have hlk := hlen k hk
  have hlk1 := hlen (k + 1) hkl
  (repeat' (first
  | refine SP ?_
  | (apply a0a <;> intro hb <;> (try simp only [nS, nT, eq_self, reduceCtorEq] at hb) <;> (try (exfalso; omega)))
  | refine a0c ?_
  | refine OB ?_
  | (apply a0i (Subtype.mk (k + 1) _); (focus (apply a04 [some 0, some 1]; (focus (iterate 2 (all_goals (repeat' (first | exact trivial | refine SP ?_ | refine And.intro ?_ ?_ | exact a0r rfl rfl rfl | exact a0b _ _ | exact a0j rfl rfl rfl | ((refine a0f ?_); first | with_reducible rfl | omega | ((try simp only [wS]); omega) | rfl) ))))); any_goals (apply a0e; rfl))); (all_goals (try (first | omega | (simp only; omega)))))
  ))
  all_goals exact b80 (x := l.getD k 0) (by rw [hi]; exact hsk) (a0d (by rw [hz]; exact a0b _ _) a0g) (by rw [hi, hlk]; omega) rfl hlk1.symm hlk.symm
 ·obtain rfl : k = l.length := by omega
  (repeat' (first
  | refine SP ?_
  | (apply a0a <;> intro hb <;> (try simp only [nS, nT, eq_self, reduceCtorEq] at hb) <;> (try (exfalso; omega)))
  | exact RT [some 0, some 1]
  ))
structure Wy where
 N : List Int
 T : List Int
 B : List Int
abbrev wyA (w : Wy) (c1 c2 c3 : Option Nat) (b : Nat) : AV := .agg [.sl b 1 0 w.N.length c1, .sl (b + 1) 1 0 w.T.length c2, .sl (b + 2) 1 0 w.B.length c3]
abbrev wyB (w : Wy) : List Blk := [iB false w.N, iB false w.T, iB false w.B]
theorem d3i (w : Wy) (c1 c2 c3 : Option Nat) :
  Runs Tryz.prog 86 [wyA w c1 c2 c3 0, .ifc 104 .dead] (wyB w) (Det (.tup [.sl 0 1 0 w.N.length c1, .sl 1 1 0 w.T.length c2]) (wyB w)) := by
 refine Runs.mk a0k Tryz.call86 Tryz.func86 rfl Tryz.ntmps86 Tryz.results86 rfl ?_
 (repeat' (first
  | refine SP ?_
  | refine a0q (by decide +kernel) ?_
  | exact RT [some 0, some 1, some 2]
  ))
theorem d3l (w : Wy) (c1 c2 c3 : Option Nat) (hN : w.N.length <= 1000) (hB : w.B.length <= 1000) :
  Runs Tryz.prog 86 [wyA w c1 c2 c3 0, .ifc 119 .dead] (wyB w) (Det (.tup [.sl 3 1 0 w.N.length none, .sl 4 1 0 w.B.length none]) [iB false w.N, iB false w.T, iB false w.B, .arr true 3 1 w.N.length (a2v w.N.reverse), .arr true 3 1 w.B.length (a2v w.B.reverse)]) := by
 have h1 := b0x w.N c1 hN
 have h2 := b0x w.B c3 hB
 refine Runs.mk a0k Tryz.call86 Tryz.func86 rfl Tryz.ntmps86 Tryz.results86 rfl ?_
 (repeat' (first
  | refine SP ?_
  | refine a0q (by decide +kernel) ?_
  | ((first | apply a0m [some 0] (h1)); exact AS; (any_goals (first | (apply a0s; rfl) )))
  | ((first | apply a0m [some 2] (h2)); exact AS; (any_goals (first | (apply a0s; rfl) )))
  | exact RT [some 0, some 1, some 2, some 4, some 5]
  ))
end Go.Vx.L58
