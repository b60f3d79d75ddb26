/- Lemmas of a small executor for the model, and contracts of functions, used for the law that this claim proves. No condition. -/
import Derived.Test.YtodbfpjjahpahaaGreatDoorERTA
import Derived.Test.YtodbfpjjahpahaaGreatDoorEW3
import Derived.Test.YtodbfpjjahpahaaGreatDoorEPTB
set_option linter.unusedSimpArgs false
set_option linter.unusedVariables false
set_option maxRecDepth 100000
namespace Go.Vx.L58
open Go Go.Proofs
def MOK (ns : List Nd) (l : List Ed) (M : Mem) : Prop := ∃ s, SOK ns (a6w ns l) s /\ a2a s = M
abbrev M0 : Mem := a2a (b0p [])
variable {ns : List Nd} {l : List Ed} {M : Mem}
theorem MOK.vs (h : MOK ns l M) : VS ns l M := by
 obtain ⟨s, h1, rfl⟩ := h; exact d3t h1
theorem MOK.wf (h : MOK ns l M) (x : Nat) : wfP (hrd M x) := by
 obtain ⟨s, h1, rfl⟩ := h
 rw [<- b20]; exact b7w h1 _ _
theorem MOK.st (h : MOK ns l M) (x : Nat) : 0 <= ((a1v ns l).fol M x).st /\ ((a1v ns l).fol M x).st < 32 := by
 obtain ⟨s, h1, rfl⟩ := h
 unfold NetP.fol
 rw [<- b20]; exact c19 h1 _ rfl _
theorem MOK.zero : MOK ns l M0 := ⟨b0p [], a79 (by rfl) (fun m hm => by cases hm), rfl⟩
theorem MOK.run (hN : NOK ns l) (t : Nat) : MOK ns l ((a1v ns l).run M0 t) := c15 hN (b0p []) (a79 (by rfl) (fun m hm => by cases hm)) rfl t
def sdB (G : NetP) (M : Mem) (y q : Nat) : Bool := ann (G.cod M y (q - 1)) && (decide (G.fol M y = G.ow y) || decide ((G.fol M y).st + 1 < 32))
def sdD (G : NetP) (M : Mem) (y q x p : Nat) : DS := if ann (G.cod M y (q - 1)) = true then
 if G.fol M y = G.ow y then { G.ow y with se := G.id y, sp := q, re := G.id x, rp := p } else { G.fol M y with st := (G.fol M y).st + 1, se := G.id y, sp := q, re := G.id x, rp := p } else default
theorem b8n (G : NetP) (M : Mem) (y q x p : Nat) : G.snd M y q x p = if sdB G M y q = true then some (sdD G M y q x p) else none := by
 unfold NetP.snd sdB sdD
 cases ann (G.cod M y (q - 1))
 ·simp
 ·by_cases h : G.fol M y = G.ow y
  ·simp [h]
  ·by_cases h2 : (G.fol M y).st + 1 < 32
   ·simp [h, h2]
   ·simp [h, h2]
theorem d3w {G : NetP} {M : Mem} {x p : Nat} (h : G.pe x p = none) : mm1 (G.rnd M) x p = [] := by
 unfold mm1 NetP.rnd; rw [h]
theorem c7g {G : NetP} {M : Mem} {x p y q : Nat} (h : G.pe x p = some (y, q)) (hs : sdB G M y q = true) : mm1 (G.rnd M) x p = [⟨x, p, 0, sdD G M y q x p⟩] := by
 unfold mm1 NetP.rnd; rw [h]
 simp only
 rw [b8n, if_pos hs]
theorem c7k {G : NetP} {M : Mem} {x p y q : Nat} (h : G.pe x p = some (y, q)) (hs : sdB G M y q = false) {a : Int} {d : DS} (hm : M x p = some (a, d)) (ha : a + 1 < 3) : mm1 (G.rnd M) x p = [⟨x, p, a + 1, d⟩] := by
 unfold mm1 NetP.rnd; rw [h]
 simp only
 rw [b8n, if_neg (by rw [hs]; simp), hm]
 simp only
 rw [if_pos ha]
theorem c94 {G : NetP} {M : Mem} {x p y q : Nat} (h : G.pe x p = some (y, q)) (hs : sdB G M y q = false) {a : Int} {d : DS} (hm : M x p = some (a, d)) (ha : ¬ a + 1 < 3) : mm1 (G.rnd M) x p = [] := by
 unfold mm1 NetP.rnd; rw [h]
 simp only
 rw [b8n, if_neg (by rw [hs]; simp), hm]
 simp only
 rw [if_neg ha]
theorem c5p {G : NetP} {M : Mem} {x p y q : Nat} (h : G.pe x p = some (y, q)) (hs : sdB G M y q = false) (hm : M x p = none) : mm1 (G.rnd M) x p = [] := by
 unfold mm1 NetP.rnd; rw [h]
 simp only
 rw [b8n, if_neg (by rw [hs]; simp), hm]
theorem c95 {x k : Nat} {A : List Mm} (h : LX M A ((x : Int), (k : Int) + 1)) : LX M (A ++ mm1 M x (k + 1)) ((x : Int), ((k + 1 : Nat) : Int) + 1) := by
 unfold mm1
 cases hm : M x (k + 1) with
 | none =>
  simp only [List.append_nil]
  exact h.up (.inl (.inr ⟨rfl, by simp only; omega⟩))
 | some v =>
  simp only
  refine ⟨fun m hx => ?_, fun m hx => ?_, ?_⟩
  ·rcases List.mem_append.1 hx with hx | hx
   ·exact h.mem m hx
   ·rw [List.mem_singleton] at hx; subst hx
    exact ⟨x, k + 1, rfl, rfl, hm⟩
  ·rcases List.mem_append.1 hx with hx | hx
   ·exact b4g (h.low m hx) (.inr ⟨rfl, by simp only; omega⟩)
   ·rw [List.mem_singleton] at hx; subst hx
    exact .inr ⟨rfl, by simp only [mk2]; omega⟩
  ·rw [List.pairwise_append]
   refine ⟨h.srt, by simp, fun a ha b hb => ?_⟩
   rw [List.mem_singleton] at hb; subst hb
   exact h.low a ha
theorem c7z {x : Nat} {A : List Mm} (h : LX M A ((x : Int), 1)) : ∀ k : Nat, LX M (A ++ mlP M x k) ((x : Int), (k : Int) + 1)
 | 0 => by simpa [mlP] using h
 | k + 1 => by
  rw [mlP, <- List.append_assoc]
  exact c95 (c7z h k)
theorem c44 : ∀ x : Nat, LX M (mlA M x) ((x : Int), 1)
 | 0 => ⟨fun m h => (by cases h), fun m h => (by cases h), List.Pairwise.nil⟩
 | x + 1 => (c7z (c44 x) 8).up (.inl (.inl (by simp only; omega)))
theorem c1h (h : MOK ns l M) {i : Nat} (hi : i < (mlA M ns.length).length) :
  (0 <= ((mlA M ns.length).getD i mm0).node /\ ((mlA M ns.length).getD i mm0).node < ns.length) /\ (rpL ns.length l ((mlA M ns.length).getD i mm0).node 8).contains ((mlA M ns.length).getD i mm0).port = true /\
  (0 <= ((mlA M ns.length).getD i mm0).age /\ ((mlA M ns.length).getD i mm0).age < 3) /\ (0 <= ((mlA M ns.length).getD i mm0).set.st /\ ((mlA M ns.length).getD i mm0).set.st < 32) /\
  [((mlA M ns.length).getD i mm0).set.p1, ((mlA M ns.length).getD i mm0).set.cl, ((mlA M ns.length).getD i mm0).set.ac, ((mlA M ns.length).getD i mm0).set.va, ((mlA M ns.length).getD i mm0).set.p2, ((mlA M ns.length).getD i mm0).set.sp, ((mlA M ns.length).getD i mm0).set.rp].all wrd = true /\
  ((mlA M ns.length).getD i mm0).set.re = (ns.getD ((mlA M ns.length).getD i mm0).node.toNat nd0).id /\ ((mlA M ns.length).getD i mm0).set.rp = ((mlA M ns.length).getD i mm0).port := by
 have hm : (mlA M ns.length).getD i mm0 ∈ mlA M ns.length := by
  rw [List.getD_eq_getElem?_getD, List.getElem?_eq_getElem hi]; exact List.getElem_mem hi
 obtain ⟨x, p, h1, h2, h3⟩ := (c44 ns.length).mem _ hm
 generalize (mlA M ns.length).getD i mm0 = m at *
 obtain ⟨h4, _⟩ := h.vs x p _ _ h3
 have e : (⟨x, p, m.age, m.set⟩ : Mm) = m := by cases m; simp only at h1 h2; subst h1 h2; rfl
 rw [e] at h4
 obtain ⟨q1, q2, q3, q4, q5, q6⟩ := a2x h4
 obtain ⟨z, hz, p', hp', e'⟩ := (b0o _ _ _ _).1 q1
 simp only [List.cons.injEq, and_true] at e'
 obtain ⟨e1, e2⟩ := e'
 refine ⟨by omega, ?_, q2, q3, q4, q5, q6⟩
 rw [e1, e2]
 exact List.contains_iff_mem.2 hp'
theorem c13 {i : Nat} (h0 : 0 < i) (hi : i < (mlA M ns.length).length) : ¬ (((mlA M ns.length).getD (i - 1) mm0).node > ((mlA M ns.length).getD i mm0).node \/ (((mlA M ns.length).getD (i - 1) mm0).node = ((mlA M ns.length).getD i mm0).node /\ ((mlA M ns.length).getD (i - 1) mm0).port ≥ ((mlA M ns.length).getD i mm0).port)) := by
 have h := b0u (c44 (M := M) ns.length).srt (show i - 1 < i by omega) hi
 unfold lt2 mk2 at h
 simp only at h
 omega
end Go.Vx.L58
set_option maxRecDepth 100000
namespace Go.Vx.L58
open Go Go.Proofs
theorem d4y {a b : DS} (h : a.p1 = b.p1 /\ a.cl = b.cl /\ a.ac = b.ac /\ a.va = b.va /\ a.p2 = b.p2 /\ a.gm = b.gm /\ a.st = b.st /\ a.se = b.se /\ a.sp = b.sp /\ a.re = b.re /\ a.rp = b.rp) : a = b := by
 cases a; cases b
 obtain ⟨h1, h2, h3, h4, h5, h6, h7, h8, h9, h10, h11⟩ := h
 simp only at h1 h2 h3 h4 h5 h6 h7 h8 h9 h10 h11
 subst h1 h2 h3 h4 h5 h6 h7 h8 h9 h10 h11
 rfl
theorem c69 (d : DS) (s sp r rp : Int) (h0 : 0 <= d.st) (h1 : d.st < 32) : Runs Tryz.prog 162 [aD d, .val (.int .u64 s), .val (.int .i64 sp), .val (.int .u64 r), .val (.int .i64 rp)] [] (Det (.tup [aD { d with st := d.st + 1, se := s, sp := sp, re := r, rp := rp }, .val (.int .i64 0)]) []) := by
 refine Runs.mk a0k Tryz.call162 Tryz.func162 rfl Tryz.ntmps162 Tryz.results162 rfl ?_
 (repeat' (first
  | refine SP ?_
  | (apply a0a <;> intro hb <;> (try simp only [nS, nT, eq_self, reduceCtorEq] at hb) <;> (try (exfalso; omega)))
  | refine a0c ?_
  | exact RT []
  ))
 all_goals first | exact a8c (by omega) (by omega) | fail
set_option maxHeartbeats 8000000 in
theorem c6f {ns : List Nd} {l : List Ed} {M : Mem} (hN : NOK ns l) (hl : l.length <= maxLen) (hM : MOK ns l M) (cap cap' capm : Option Nat) (rd : Int) (x p y q : Nat) (hpe : (a1v ns l).pe x p = some (y, q)) :
  Runs Tryz.prog 133 [aN ns.length l cap ns cap', aBl rd (mlA M ns.length) capm 2, .val (.int .i64 x), .val (.int .i64 p)] [gB l, ndB ns, meB false (mlA M ns.length)]
   (Det (.tup [aD (sdD (a1v ns l) M x p y q), .sb (sdB (a1v ns l) M x p)]) [gB l, ndB ns, meB false (mlA M ns.length)]) := by
 obtain ⟨⟨hx, hy⟩, hp, hq, hxy, hpe'⟩ := (b2z hN).pe_ok x p y q hpe
 have hx : x < ns.length := hx
 have hy : y < ns.length := hy
 obtain ⟨hc, hn24, hcl⟩ := hN.parts
 have hml := a73 M ns.length
 have hhe := b5f rd (mlA M ns.length) capm (by omega) x
 rw [c00 M hx] at hhe
 have how := c4x ns.length l cap ns cap' x hx
 have hlh : (hrd M x).length = 8 := a52 M x
 have hde := a7w (owD (ns.getD x nd0)) (hrd M x) none (by omega) (hM.wf x) (hcl x hx).2.2
 have hma := b9n (owD (ns.getD x nd0)) (hrd M x) none (by omega) (hM.wf x) (hcl x hx).2.2
 have hst := hM.st x
 have hco := a5q (owD (ns.getD x nd0)) (hrd M x) (hrd M x).length (p - 1) (by omega)
 have hclen := a2p (owD (ns.getD x nd0)) (hrd M x) (hrd M x).length
 have hpr := a9d ns.length l cap hl x p
 have hpf : a1h ns.length l x p = ((y : Int), (q : Int), true) := by
  obtain ⟨y', q', e, _⟩ := a5g hc (p := (p : Int)) hx (by
   have h := hpe
   simp only [a1v] at h
   by_cases h2 : (a1h ns.length l x p).2.2 = true
   ·exact h2
   ·rw [if_neg h2] at h; cases h)
  have h := hpe
  simp only [a1v] at h
  rw [e] at h ⊢
  simp only [if_true, Option.some.injEq, Prod.mk.injEq, Int.toNat_natCast] at h
  obtain ⟨h1, h2⟩ := h
  have hq' : 0 <= q' := by
   have := a5g hc (p := (p : Int)) hx (by rw [e])
   obtain ⟨y2, q2, e2, _, hq2, _⟩ := this
   rw [e] at e2
   simp only [Prod.mk.injEq] at e2
   omega
  rw [h1, show q' = (q : Int) by omega]
 rw [hpf] at hpr
 have hcod : (a1v ns l).cod M x (p - 1) = a4v (owD (ns.getD x nd0)) (hrd M x) (p - 1) := rfl
 have hfol : (a1v ns l).fol M x = a5r (owD (ns.getD x nd0)) (hrd M x) := rfl
 have hidx : 0 + (IntKind.i64.wrap ((p : Int) - 1)).toNat = p - 1 := by rw [IntKind.wrap_i64]; omega
 rw [show b1h (owD (ns.getD x nd0)) (hrd M x) (hrd M x).length = a7s (owD (ns.getD x nd0)) (hrd M x) from rfl] at hco hclen
 have hzx : 0 + Int.toNat (x : Int) = x := by omega
 have hzy : 0 + Int.toNat (y : Int) = y := by omega
 have i1 : (a1v ns l).id x = (ns.getD x nd0).id := rfl
 have i2 : (a1v ns l).id y = (ns.getD y nd0).id := rfl
 have i3 : (a1v ns l).ow x = owD (ns.getD x nd0) := rfl
 unfold sdD sdB
 rw [hfol] at hst
 rw [hcod, hfol, i1, i2, i3]
 rw [hlh] at hde hma hclen
 generalize a7s (owD (ns.getD x nd0)) (hrd M x) = C at *
 generalize hcd : a4v (owD (ns.getD x nd0)) (hrd M x) (p - 1) = c at *
 have hci : C.getD (0 + (IntKind.i64.wrap ((p : Int) - 1)).toNat) 0 = c := by rw [hidx]; exact hco
 have han := d0q c
 have hwn := hN.wf x
 cases hA : ann c
 ·rw [hA] at han
  rw [<- hci] at han
  simp only [Bool.false_and]
  rw [if_neg (by simp)]
  generalize a5r (owD (ns.getD x nd0)) (hrd M x) = F at *
  generalize hrd M x = H at *
  refine Runs.mk a0k Tryz.call133 Tryz.func133 rfl Tryz.ntmps133 Tryz.results133 rfl ?_
  (repeat' (first
  | refine SP ?_
  | (apply a0a <;> intro hb <;> (try simp only [nS, nT, eq_self, reduceCtorEq] at hb) <;> (try (exfalso; fail; done)))
  | refine a0c ?_
  | refine OB ?_
  | refine CT [some 2] hhe ?_
  | refine CT [some 0, some 1] how ?_
  | ((first | apply a1a [some _] (hde) ); exact AS; any_goals (apply a1j; rfl))
  | ((first | apply a0t (han) ); exact AS)
  | exact RT [some 0, some 1, some 2]
  ))
 rw [hA] at han
 rw [<- hci] at han
 simp only [Bool.true_and, if_true]
 by_cases hF : a5r (owD (ns.getD x nd0)) (hrd M x) = owD (ns.getD x nd0)
 ·rw [hF] at hma
  rw [if_pos hF, decide_eq_true hF, Bool.true_or]
  generalize hrd M x = H at *
  refine Runs.mk a0k Tryz.call133 Tryz.func133 rfl Tryz.ntmps133 Tryz.results133 rfl ?_
  (repeat' (first
  | refine SP ?_
  | (apply a0a <;> intro hb <;> (try simp only [nS, nT, eq_self, reduceCtorEq] at hb) <;> (try (exfalso; fail; done)))
  | refine a0q (by decide +kernel) ?_
  | refine a0c ?_
  | refine OB ?_
  | refine CT [some 2] hhe ?_
  | ((first | apply a1a [some 0, some 1] (how) | apply a0m [some 0, some 1] (how)); exact AS; (any_goals (first | (apply a1j; rfl) | (apply a0s; rfl) )))
  | ((first | apply a1a [some _] (hde) ); exact AS; any_goals (apply a1j; rfl))
  | ((first | apply a0t (han) ); exact AS)
  | refine CT [some 0] hpr ?_
  | ((first | apply a1a [some _] (hma) ); exact AS; any_goals (apply a1j; rfl))
  | (apply a0v [some 0, some 1, some 2]; (focus (iterate 2 (all_goals (repeat' (first | exact a0g | exact trivial | refine SP ?_ | refine And.intro ?_ ?_ | refine a0d ?_ ?_ | refine a1i ?_ | refine a1c ?_ | exact a0b _ _ | exact a0w rfl | exact a0j rfl rfl rfl | refine a0f ?_ ))))); any_goals (apply a0e; rfl))
  ))
  all_goals first | (show (ns.getD (0 + Int.toNat (x : Int)) nd0).id = (ns.getD x nd0).id; rw [hzx]) | (show (ns.getD (0 + Int.toNat (y : Int)) nd0).id = (ns.getD y nd0).id; rw [hzy]) | fail
 ·have hne := hF
  rw [if_neg hF, decide_eq_false hF, Bool.false_or]
  have hsp := c69 (a5r (owD (ns.getD x nd0)) (hrd M x)) (ns.getD (0 + Int.toNat (x : Int)) nd0).id p (ns.getD (0 + Int.toNat (y : Int)) nd0).id q hst.1 hst.2
  have e1 : (ns.getD (0 + Int.toNat (x : Int)) nd0).id = (ns.getD x nd0).id := by rw [hzx]
  have e2 : (ns.getD (0 + Int.toNat (y : Int)) nd0).id = (ns.getD y nd0).id := by rw [hzy]
  have hwn := hN.wf x
  clear hco
  generalize hFF : a5r (owD (ns.getD x nd0)) (hrd M x) = F at *
  generalize hrd M x = H at *
  refine Runs.mk a0k Tryz.call133 Tryz.func133 rfl Tryz.ntmps133 Tryz.results133 rfl ?_
  (repeat' (first
  | refine SP ?_
  | (apply a0a <;> intro hb <;> (try simp only [nS, nT, eq_self, reduceCtorEq] at hb) <;> (try (exfalso; (first | exact hne (d4y hb)); done)))
  | refine a0q (by decide +kernel) ?_
  | refine a0c ?_
  | refine OB ?_
  | refine CT [some 2] hhe ?_
  | ((first | apply a1a [some 0, some 1] (how) | apply a0m [some 0, some 1] (how)); exact AS; (any_goals (first | (apply a1j; rfl) | (apply a0s; rfl) )))
  | ((first | apply a1a [some _] (hde) ); exact AS; any_goals (apply a1j; rfl))
  | ((first | apply a0t (han) ); exact AS)
  | refine CT [some 0] hpr ?_
  | ((first | apply a1a [some _] (hma) ); exact AS; any_goals (apply a1j; rfl))
  | ((first | apply a1l (hsp)); exact AS)
  | (apply a0v [some 0, some 1, some 2]; (focus (iterate 2 (all_goals (repeat' (first | exact a0g | exact trivial | refine SP ?_ | refine And.intro ?_ ?_ | refine a0d ?_ ?_ | refine a1i ?_ | refine a1c ?_ | exact a0b _ _ | exact a0j rfl rfl rfl | ((refine a0f ?_); first | with_reducible rfl | omega | ((try simp only [wS]); omega) | rfl) | refine a0w ?_ ))))); any_goals (apply a0e; rfl))
  ))
  all_goals first | exact (decide_eq_true hb).symm | exact (decide_eq_false (by omega)).symm | (show (ns.getD (0 + Int.toNat (x : Int)) nd0).id = (ns.getD x nd0).id; rw [hzx]) | (show (ns.getD (0 + Int.toNat (y : Int)) nd0).id = (ns.getD y nd0).id; rw [hzy]) | fail
end Go.Vx.L58
set_option maxRecDepth 100000
namespace Go.Vx.L58
open Go Go.Proofs
set_option maxHeartbeats 8000000 in
theorem c16 {ns : List Nd} {l : List Ed} {M : Mem} (hN : NOK ns l) (hl : l.length <= maxLen) (hM : MOK ns l M) (cap cap' capm : Option Nat) (rd : Int) (hrd : 0 <= rd /\ rd <= 1073741824) :
  Runs Tryz.prog 132 [aN ns.length l cap ns cap', aBl rd (mlA M ns.length) capm 2] [gB l, ndB ns, meB false (mlA M ns.length)]
   (Det (.sb true) [gB l, ndB ns, meB false (mlA M ns.length)]) := by
 obtain ⟨hc, hn24, hcl⟩ := hN.parts
 have hml := a73 M ns.length
 have hpa := fun i hi => c1h hM (i := i) hi
 have hor := fun i h0 hi => c13 (ns := ns) (M := M) (i := i) h0 hi
 have hus := fun a p => c41 ns.length l cap hl ns cap' a p
 generalize mlA M ns.length = ms at *
 refine Runs.mk a0k Tryz.call132 Tryz.func132 rfl Tryz.ntmps132 Tryz.results132 rfl ?_
 (repeat' (first
  | refine SP ?_
  | (apply a0a <;> intro hb <;> (try simp only [nS, nT, eq_self, reduceCtorEq] at hb) <;> (try (exfalso; omega)))
  | refine a0c ?_
  ))
 refine a0p (σ := Nat) (fun x => x <= ms.length) (fun x => ⟨[(2, .ptr 3 3 0 0), (3, .ptr 4 2 0 0), (5, .val (.int .i64 x))], [gB l, ndB ns, meB false ms, .var [.val (.int .i64 ns.length), .sl 0 4 0 l.length cap, .sl 1 6 0 ns.length cap'], .var [.val (.int .i64 rd), .sl 2 14 0 ms.length capm]]⟩) (fun x => ms.length - x) (0) ?_ ?_ ?_
 ·omega
 ·exact LT [some 0, some 1, some 2, some 3, some 4]
 rintro i hi
 by_cases hil : i < ms.length
 rotate_left
 ·(repeat' (first
  | refine SP ?_
  | (apply a0a <;> intro hb <;> (try simp only [nS, nT, eq_self, reduceCtorEq] at hb) <;> (try (exfalso; omega)))
  | refine a0c ?_
  | exact RT [some 0, some 1, some 2]
  ))
 have hz : 0 + Int.toNat (i : Int) = i := by omega
 obtain ⟨p1, p2, p3, p4, p5, p6, p7⟩ := hpa i hil
 have hus := hus ((ms.getD i mm0).node) ((ms.getD i mm0).port)
 rw [p2] at hus
 rw [show ms.getD i mm0 = ms.getD (0 + Int.toNat (i : Int)) mm0 by rw [hz]] at p1 p2 p3 p4 p5 p6 p7 hus
 have hsm := b7u [(ms.getD (0 + Int.toNat (i : Int)) mm0).set.p1, (ms.getD (0 + Int.toNat (i : Int)) mm0).set.cl, (ms.getD (0 + Int.toNat (i : Int)) mm0).set.ac, (ms.getD (0 + Int.toNat (i : Int)) mm0).set.va, (ms.getD (0 + Int.toNat (i : Int)) mm0).set.p2, (ms.getD (0 + Int.toNat (i : Int)) mm0).set.sp, (ms.getD (0 + Int.toNat (i : Int)) mm0).set.rp] (some 7) (by simp)
 rw [p5] at hsm
 rw [<- Nat.zero_add (ms.getD (0 + Int.toNat (i : Int)) mm0).node.toNat] at p6
 by_cases h0 : 0 < i
 ·have ho := hor i h0 hil
  have hzi : 0 + (IntKind.i64.wrap ((i : Int) - 1)).toNat = i - 1 := by rw [IntKind.wrap_i64]; omega
  rw [show ms.getD i mm0 = ms.getD (0 + Int.toNat (i : Int)) mm0 by rw [hz], <- hzi] at ho
  (repeat' (first
  | refine SP ?_
  | (with_reducible refine a01 ?_)
  | (apply a0a <;> intro hb <;> (try simp only [nS, nT, eq_self, reduceCtorEq] at hb) <;> (try (exfalso; omega)))
  | refine a0q (by decide +kernel) ?_
  | refine a0c ?_
  | refine OB ?_
  | refine CT [some 0, some 1] hus ?_
  | ((first | apply a0m [some _] (hsm)); (focus ((iterate 2 (all_goals (repeat' (first | exact a0g | exact trivial | refine SP ?_ | refine And.intro ?_ ?_ | refine a0d ?_ ?_ | exact a0r rfl rfl rfl | exact a0b _ _ | refine a0o ?_ ?_ | exact a3c | (apply a3g rfl; (focus (refine a0o ?_ ?_))) )))); done)); (any_goals (first | (apply a0s; rfl) )))
  | (apply a0i (Subtype.mk (i + 1) _); (focus (apply a04 [some 0, some 1, some 2, some 3, some 4]; (focus (iterate 2 (all_goals (repeat' (first | exact a0g | exact trivial | refine SP ?_ | refine And.intro ?_ ?_ | refine a0d ?_ ?_ | refine a09 ?_ | exact a0z rfl rfl | exact a0r rfl rfl rfl | exact a0b _ _ | exact a0j rfl rfl rfl | ((refine a0f ?_); first | with_reducible rfl | omega | ((try simp only [wS]); omega) | rfl) ))))); any_goals (apply a0e; rfl))); (all_goals (try (first | omega | (simp only; omega)))))
  ))
 ·obtain rfl : i = 0 := by omega
  (repeat' (first
  | refine SP ?_
  | (with_reducible refine a01 ?_)
  | (apply a0a <;> intro hb <;> (try simp only [nS, nT, eq_self, reduceCtorEq] at hb) <;> (try (exfalso; omega)))
  | refine a0q (by decide +kernel) ?_
  | refine a0c ?_
  | refine OB ?_
  | refine CT [some 0, some 1] hus ?_
  | ((first | apply a0m [some _] (hsm)); (focus ((iterate 2 (all_goals (repeat' (first | exact a0g | exact trivial | refine SP ?_ | refine And.intro ?_ ?_ | refine a0d ?_ ?_ | exact a0r rfl rfl rfl | exact a0b _ _ | refine a0o ?_ ?_ | exact a3c | (apply a3g rfl; (focus (refine a0o ?_ ?_))) )))); done)); (any_goals (first | (apply a0s; rfl) )))
  | (apply a0i (Subtype.mk (0 + 1) _); (focus (apply a04 [some 0, some 1, some 2, some 3, some 4]; (focus (iterate 2 (all_goals (repeat' (first | exact a0g | exact trivial | refine SP ?_ | refine And.intro ?_ ?_ | refine a0d ?_ ?_ | refine a09 ?_ | exact a0z rfl rfl | exact a0r rfl rfl rfl | exact a0b _ _ | exact a0j rfl rfl rfl ))))); any_goals (apply a0e; rfl))); (all_goals (try (first | omega | (simp only; omega)))))
  ))
theorem b85 {ns : List Nd} {l : List Ed} {M : Mem} (hN : NOK ns l) (hl : l.length <= maxLen) (hn : ns.length <= maxLen) (hM : MOK ns l M) (cap cap' capm : Option Nat) (rd : Int) (hrd : 0 <= rd /\ rd <= 1073741824) :
  Runs Tryz.prog 97 [aN ns.length l cap ns cap', aBl rd (mlA M ns.length) capm 2] [gB l, ndB ns, meB false (mlA M ns.length)]
   (Det (.val (.int .i64 0)) [gB l, ndB ns, meB false (mlA M ns.length)]) := by
 have hck := b0e ns.length l cap hl ns cap' hn
 rw [hN.ck] at hck
 have hva := c16 hN hl hM cap cap' capm rd hrd
 refine Runs.mk a0k Tryz.call97 Tryz.func97 rfl Tryz.ntmps97 Tryz.results97 rfl ?_
 (repeat' (first
  | refine SP ?_
  | (apply a0a <;> intro hb <;> (try simp only [nS, nT, eq_self, reduceCtorEq] at hb) <;> (try (exfalso; fail; done)))
  | refine a0c ?_
  | refine CT [some 0, some 1] hck ?_
  | refine CT [some 0, some 1, some 2] hva ?_
  | exact RT [some 0, some 1, some 2]
  ))
end Go.Vx.L58
set_option maxRecDepth 100000
namespace Go.Vx.L58
open Go Go.Proofs
theorem c4b {ns : List Nd} {l : List Ed} (hN : NOK ns l) {x p y q : Nat} (hpe : (a1v ns l).pe x p = some (y, q)) : a1h ns.length l x p = ((y : Int), (q : Int), true) := by
 obtain ⟨⟨hx, _⟩, _⟩ := (b2z hN).pe_ok x p y q hpe
 have hx : x < ns.length := hx
 obtain ⟨hc, _, _⟩ := hN.parts
 obtain ⟨y', q', e, _, hq', _⟩ := a5g hc (p := (p : Int)) hx (by
  have h := hpe
  simp only [a1v] at h
  by_cases h2 : (a1h ns.length l x p).2.2 = true
  ·exact h2
  ·rw [if_neg h2] at h; cases h)
 have h := hpe
 simp only [a1v] at h
 rw [e] at h ⊢
 simp only [if_true, Option.some.injEq, Prod.mk.injEq, Int.toNat_natCast] at h
 obtain ⟨h1, h2⟩ := h
 rw [h1, show q' = (q : Int) by omega]
theorem d06 {ns : List Nd} {l : List Ed} {x p : Nat} (hpe : (a1v ns l).pe x p = none) : (a1h ns.length l x p).2.2 = false := by
 simp only [a1v] at hpe
 cases h : (a1h ns.length l x p).2.2
 ·rfl
 ·rw [h, if_pos rfl] at hpe; cases hpe
set_option maxHeartbeats 8000000 in
theorem c18 {ns : List Nd} {l : List Ed} {M : Mem} (hN : NOK ns l) (hl : l.length <= maxLen) (hM : MOK ns l M) (cap cap' capm : Option Nat) (rd : Int) (hrd : 0 <= rd /\ rd <= 1000) :
  Runs Tryz.prog 98 [aN ns.length l cap ns cap', aBl rd (mlA M ns.length) capm 2] [gB l, ndB ns, meB false (mlA M ns.length)]
   (Det (.agg [.val (.int .i64 (rd + 1)), .sl 3 14 0 (mlA ((a1v ns l).rnd M) ns.length).length none]) [gB l, ndB ns, meB false (mlA M ns.length), meB true (mlA ((a1v ns l).rnd M) ns.length)]) := by
 obtain ⟨hc, hn24, hcl⟩ := hN.parts
 have hml := a73 M ns.length
 have hll := a73 ((a1v ns l).rnd M)
 have hpl := b6r ((a1v ns l).rnd M)
 have hA1 : ∀ x, mlA ((a1v ns l).rnd M) (x + 1) = mlA ((a1v ns l).rnd M) x ++ mlP ((a1v ns l).rnd M) x 8 := fun _ => rfl
 have hA0 : mlA ((a1v ns l).rnd M) 0 = [] := rfl
 have hP1 : ∀ x k, mlP ((a1v ns l).rnd M) x (k + 1) = mlP ((a1v ns l).rnd M) x k ++ mm1 ((a1v ns l).rnd M) x (k + 1) := fun _ _ => rfl
 have hP0 : ∀ x, mlP ((a1v ns l).rnd M) x 0 = [] := fun _ => rfl
 have hpr := fun x p => a9d ns.length l cap hl x p
 have hfi := fun a p => c1t rd (mlA M ns.length) capm (by omega) a p
 have hfe := fun y q => b2c M y q ns.length
 have hse := fun y q x p h => c6f hN hl hM cap cap' capm rd y q x p h
 have hpk := fun x p y q h => (b2z hN).pe_ok x p y q h
 have hvs := hM.vs
 refine Runs.mk a0k Tryz.call98 Tryz.func98 rfl Tryz.ntmps98 Tryz.results98 rfl ?_
 (repeat' (first
  | refine SP ?_
  | refine a0c ?_
  ))
 refine a0p (σ := Nat) (fun x => x <= ns.length) (fun x => ⟨[(2, .ptr 3 3 0 0), (3, .ptr 4 2 0 0), (4, .ptr 5 2 0 0), (5, .ptr 6 2 0 0), (6, .val (.int .i64 x))], [gB l, ndB ns, meB false (mlA M ns.length), .var [.val (.int .i64 ns.length), .sl 0 4 0 l.length cap, .sl 1 6 0 ns.length cap'], .var [.val (.int .i64 rd), .sl 2 14 0 (mlA M ns.length).length capm], .var [.dead, .dead], .var [.val (.int .i64 (rd + 1)), .sl 7 14 0 (mlA ((a1v ns l).rnd M) x).length none], meB true (mlA ((a1v ns l).rnd M) x)]⟩) (fun x => ns.length - x) (0) ?_ ?_ ?_
 ·omega
 ·rw [hA0]
  exact LT [some 0, some 1, some 2, some 3, some 4, some 5, some 6, none]
  all_goals first | exact a8c (by omega) (by omega) | fail
 rintro X hx
 by_cases hxl : X < ns.length
 rotate_left
 ·obtain rfl : X = ns.length := by omega
  (repeat' (first
  | refine SP ?_
  | (apply a0a <;> intro hb <;> (try simp only [nS, nT, eq_self, reduceCtorEq] at hb) <;> (try (exfalso; omega)))
  | refine a0c ?_
  | exact RT [some 0, some 1, some 2, some 7]
  ))
 (repeat' (first
  | refine SP ?_
  | (apply a0a <;> intro hb <;> (try simp only [nS, nT, eq_self, reduceCtorEq] at hb) <;> (try (exfalso; omega)))
  | refine a0c ?_
  ))
 refine a0p (σ := Nat) (fun x => x <= 8) (fun x => ⟨[(2, .ptr 3 3 0 0), (3, .ptr 4 2 0 0), (4, .ptr 5 2 0 0), (5, .ptr 6 2 0 0), (6, .val (.int .i64 X)), (7, .val (.int .i64 ((x + 1 : Nat) : Int)))], [gB l, ndB ns, meB false (mlA M ns.length), .var [.val (.int .i64 ns.length), .sl 0 4 0 l.length cap, .sl 1 6 0 ns.length cap'], .var [.val (.int .i64 rd), .sl 2 14 0 (mlA M ns.length).length capm], .var [.dead, .dead], .var [.val (.int .i64 (rd + 1)), .sl 7 14 0 (mlA ((a1v ns l).rnd M) X ++ mlP ((a1v ns l).rnd M) X x).length none], meB true (mlA ((a1v ns l).rnd M) X ++ mlP ((a1v ns l).rnd M) X x)]⟩) (fun x => 8 - x) (0) ?_ ?_ ?_
 ·omega
 ·rw [hP0, List.append_nil]
  exact LT [some 0, some 1, some 2, some 3, some 4, some 5, some 6, some 7]
 rintro k hk
 by_cases hkl : k < 8
 rotate_left
 ·obtain rfl : k = 8 := by omega
  (repeat' (first
  | refine SP ?_
  | (apply a0a <;> intro hb <;> (try simp only [nS, nT, eq_self, reduceCtorEq] at hb) <;> (try (exfalso; omega)))
  | refine a0c ?_
  | (apply a0i (Subtype.mk (X + 1) (by first | omega | (simp only; omega))); (focus (rw [hA1]; exact LT [some 0, some 1, some 2, some 3, some 4, some 5, some 6, some 7])); (all_goals (try (first | (simp only; omega)))))
  ))
 have hP : mlA ((a1v ns l).rnd M) X ++ mlP ((a1v ns l).rnd M) X (k + 1) = (mlA ((a1v ns l).rnd M) X ++ mlP ((a1v ns l).rnd M) X k) ++ mm1 ((a1v ns l).rnd M) X (k + 1) := by rw [hP1, List.append_assoc]
 have hl1 := hll X
 have hl2 := hpl X k
 have hpr := hpr X ((k + 1 : Nat) : Int)
 have hcl2 : (mlA ((a1v ns l).rnd M) X ++ mlP ((a1v ns l).rnd M) X k).length <= 300 := by rw [List.length_append]; omega
 generalize mlA ((a1v ns l).rnd M) X ++ mlP ((a1v ns l).rnd M) X k = C at *
 cases hpe : (a1v ns l).pe X (k + 1) with
 | none =>
  have hh := d06 hpe
  rw [d3w hpe, List.append_nil] at hP
  generalize a1h ns.length l X ((k + 1 : Nat) : Int) = pf at *
  obtain ⟨f1, f2, f3⟩ := pf
  simp only at hh
  subst hh
  (repeat' (first
  | refine SP ?_
  | (apply a0a <;> intro hb <;> (try simp only [nS, nT, eq_self, reduceCtorEq] at hb) <;> (try (exfalso; omega)))
  | refine a0c ?_
  | refine CT [some 0] hpr ?_
  | (apply a0i (Subtype.mk (k + 1) (by first | omega | (simp only; omega))); (focus (rw [hP]; exact LT [some 0, some 1, some 2, some 3, some 4, some 5, some 6, some 7])); (all_goals (try (first | (simp only; omega)))))
  ))
 | some v =>
  obtain ⟨y, q⟩ := v
  rw [c4b hN hpe] at hpr
  obtain ⟨⟨_, hy⟩, _, hq, _, hpe'⟩ := hpk X (k + 1) y q hpe
  have hy : y < ns.length := hy
  have hse := hse y q X (k + 1) hpe'
  have hfi := hfi X ((k + 1 : Nat) : Int)
  have hfe := hfe X (k + 1)
  rw [if_pos ⟨hxl, by omega, by omega⟩] at hfe
  rw [hfe] at hfi
  cases hb2 : sdB (a1v ns l) M y q
  ·rw [hb2] at hse
   cases hmx : M X (k + 1) with
   | none =>
    rw [c5p hpe hb2 hmx, List.append_nil] at hP
    rw [hmx] at hfi
    simp only [Option.map_none, Option.isSome_none, Option.getD_none] at hfi
    (repeat' (first
  | refine SP ?_
  | (with_reducible refine a07 ?_)
  | (apply a0a <;> intro hb <;> (try simp only [nS, nT, eq_self, reduceCtorEq] at hb) <;> (try (exfalso; omega)))
  | refine a0c ?_
  | refine CT [some 0] hpr ?_
  | refine CT [some 0, some 1, some 2] hse ?_
  | refine CT [some 2] hfi ?_
  | (apply a0i (Subtype.mk (k + 1) (by first | omega | (simp only; omega))); (focus (rw [hP]; exact LT [some 0, some 1, some 2, some 3, some 4, some 5, some 6, some 7])); (all_goals (try (first | (simp only; omega)))))
  ))
   | some v =>
    obtain ⟨a, d⟩ := v
    rw [hmx] at hfi
    simp only [Option.map_some, Option.isSome_some, Option.getD_some] at hfi
    have hag := (a2x (hvs X (k + 1) a d hmx).1).2.1
    have hag : 0 <= a /\ a < 3 := hag
    have wa : IntKind.i64.wrap (a + 1) = a + 1 := by rw [IntKind.wrap_i64]; omega
    by_cases ha : a + 1 < 3
    ·rw [c7k hpe hb2 hmx ha] at hP
     (repeat' (first
  | refine SP ?_
  | (with_reducible refine a01 ?_)
  | (with_reducible refine a07 ?_)
  | (apply a0a <;> intro hb <;> (try simp only [nS, nT, eq_self, reduceCtorEq] at hb) <;> (try (exfalso; omega)))
  | refine a0c ?_
  | refine OB ?_
  | refine CT [some 0] hpr ?_
  | refine CT [some 0, some 1, some 2] hse ?_
  | refine CT [some 2] hfi ?_
  | (apply a0i (Subtype.mk (k + 1) (by first | omega | (simp only; omega))); (focus (rw [hP]; apply a04 [some 0, some 1, some 2, some 3, some 4, some 5, some 6, some _]; (focus (iterate 2 (all_goals (repeat' (first | apply a3l (x := (⟨X, ((k + 1 : Nat) : Int), a + 1, d⟩ : Mm)) | exact a2z | exact a0g | exact trivial | refine SP ?_ | refine And.intro ?_ ?_ | refine a0d ?_ ?_ | refine a09 ?_ | exact a0z rfl rfl | exact a0r rfl rfl rfl | exact a0b _ _ | exact a0j rfl rfl rfl | ((first | refine a0f ?_ | refine a0r rfl rfl ?_ | show (_ : Nat) = _); first | with_reducible rfl | omega | ((try simp only [wS]); omega) | rfl) | refine a0o ?_ ?_ | exact a3c | with_reducible rfl | refine a0r rfl rfl ?_ ))))); any_goals (apply a0e; rfl))); (all_goals (try (first | (simp only; omega)))))
  ))
     all_goals first | exact wa | (rw [List.length_append]; rfl) | fail
    ·rw [c94 hpe hb2 hmx ha, List.append_nil] at hP
     (repeat' (first
  | refine SP ?_
  | (with_reducible refine a01 ?_)
  | (with_reducible refine a07 ?_)
  | (apply a0a <;> intro hb <;> (try simp only [nS, nT, eq_self, reduceCtorEq] at hb) <;> (try (exfalso; omega)))
  | refine a0c ?_
  | refine CT [some 0] hpr ?_
  | refine CT [some 0, some 1, some 2] hse ?_
  | refine CT [some 2] hfi ?_
  | (apply a0i (Subtype.mk (k + 1) (by first | omega | (simp only; omega))); (focus (rw [hP]; exact LT [some 0, some 1, some 2, some 3, some 4, some 5, some 6, some 7])); (all_goals (try (first | (simp only; omega)))))
  ))
  ·rw [hb2] at hse
   rw [c7g hpe hb2] at hP
   generalize sdD (a1v ns l) M y q X (k + 1) = D at *
   (repeat' (first
  | refine SP ?_
  | (with_reducible refine a01 ?_)
  | (apply a0a <;> intro hb <;> (try simp only [nS, nT, eq_self, reduceCtorEq] at hb) <;> (try (exfalso; omega)))
  | refine a0c ?_
  | refine OB ?_
  | refine CT [some 0] hpr ?_
  | refine CT [some 0, some 1, some 2] hse ?_
  | (apply a0i (Subtype.mk (k + 1) (by first | omega | (simp only; omega))); (focus (rw [hP]; apply a04 [some 0, some 1, some 2, some 3, some 4, some 5, some 6, some _]; (focus (iterate 2 (all_goals (repeat' (first | exact a2z | exact a0g | exact trivial | refine SP ?_ | refine And.intro ?_ ?_ | refine a0d ?_ ?_ | refine a09 ?_ | exact a0z rfl rfl | exact a0r rfl rfl rfl | exact a0b _ _ | exact a0j rfl rfl rfl | ((first | refine a0f ?_ | refine a0r rfl rfl ?_ | show (_ : Nat) = _); first | with_reducible rfl | omega | ((try simp only [wS]); omega) | rfl) | apply a3l | refine a0o ?_ ?_ | exact a3c | with_reducible rfl | refine a0f ?_ | refine a0r rfl rfl ?_ ))))); any_goals (apply a0e; rfl))); (all_goals (try (first | (simp only; omega)))))
  ))
   all_goals first | (rw [List.length_append]; rfl) | fail
set_option maxHeartbeats 8000000 in
theorem c4f {ns : List Nd} {l : List Ed} (hN : NOK ns l) (hl : l.length <= maxLen) (hn : ns.length <= maxLen) (cap cap' : Option Nat) :
  Runs Tryz.prog 52 [aN ns.length l cap ns cap', .agg [.val (.int .i64 0), .val (.slice none 0 0)], .val (.int .i64 ns.length)] [gB l, ndB ns]
   (Det (.tup [.agg [.val (.int .i64 ns.length), .sl 2 14 0 (mlA ((a1v ns l).run M0 ns.length) ns.length).length none], .val (.int .i64 0)]) [gB l, ndB ns, meB true (mlA ((a1v ns l).run M0 ns.length) ns.length)]) := by
 obtain ⟨hc, hn24, hcl⟩ := hN.parts
 have hr0 := b85 hN hl hn MOK.zero cap cap' none 0 (by omega)
 have hrn := fun (k : Nat) (hk : k <= 24) => c18 hN hl (MOK.run hN k) cap cap' none k (by omega)
 have hm0 : mlA M0 ns.length = [] := by rw [show M0 = fun _ _ => none from funext fun _ => funext fun _ => rfl]; exact b76 ns.length
 have hs : ∀ k, (a1v ns l).rnd ((a1v ns l).run M0 k) = (a1v ns l).run M0 (k + 1) := fun _ => rfl
 have hr00 : (a1v ns l).run M0 0 = M0 := rfl
 simp only [hs] at hrn
 rw [hm0] at hr0
 rw [<- hr00] at hm0
 generalize hL : (fun k => mlA ((a1v ns l).run M0 k) ns.length) = L at *
 have hLk : ∀ k, mlA ((a1v ns l).run M0 k) ns.length = L k := fun k => by rw [<- hL]
 simp only [hLk] at hrn hm0 ⊢
 have w0 : IntKind.i64.wrap ((0 : Int) + ns.length) = ns.length := by rw [IntKind.wrap_i64]; omega
 refine Runs.mk a0k Tryz.call52 Tryz.func52 rfl Tryz.ntmps52 Tryz.results52 rfl ?_
 (repeat' (first
  | refine SP ?_
  | (apply a0a <;> intro hb <;> (try simp only [nS, nT, eq_self, reduceCtorEq] at hb) <;> (try (exfalso; omega)))
  | refine a0c ?_
  | refine CT [some 0, some 1, none] hr0 ?_
  ))
 refine a0p (σ := Nat) (fun x => x <= ns.length) (fun x => ⟨[(2, .val (.int .i64 ns.length)), (3, .ptr 2 3 0 0), (4, .ptr 3 2 0 0), (6, .ptr 4 2 0 0), (9, .val (.int .i64 x))], [gB l, ndB ns, .var [.val (.int .i64 ns.length), .sl 0 4 0 l.length cap, .sl 1 6 0 ns.length cap'], .var [.val (.int .i64 x), .sl 5 14 0 (L x).length none], .var [.dead, .dead], meB true (L x)]⟩) (fun x => ns.length - x) (0) ?_ ?_ ?_
 ·omega
 ·rw [hm0]
  exact LT [some 0, some 1, some 2, some 3, some 4, none]
 rintro x hx
 by_cases hxl : x < ns.length
 rotate_left
 ·obtain rfl : x = ns.length := by omega
  (repeat' (first
  | refine SP ?_
  | (apply a0a <;> intro hb <;> (try simp only [nS, nT, eq_self, reduceCtorEq] at hb) <;> (try (exfalso; omega)))
  | refine a0c ?_
  | exact RT [some 0, some 1, some 5]
  ))
 have hrn := hrn x (by omega)
 (repeat' (first
  | refine SP ?_
  | (apply a0a <;> intro hb <;> (try simp only [nS, nT, eq_self, reduceCtorEq] at hb) <;> (try (exfalso; omega)))
  | refine a0c ?_
  | refine CT [some 0, some 1, some 5] hrn ?_
  | (apply a0i (Subtype.mk (x + 1) _); (focus (apply a04 [some 0, some 1, some 2, some 3, some 4, some _]; (focus (iterate 2 (all_goals (repeat' (first | exact a2z | exact a0g | exact trivial | refine SP ?_ | refine And.intro ?_ ?_ | refine a0d ?_ ?_ | refine a09 ?_ | exact a0z rfl rfl | exact a0r rfl rfl rfl | exact a0b _ _ | exact a0j rfl rfl rfl | exact a5o rfl rfl rfl | ((refine a0f ?_); first | with_reducible rfl | omega | ((try simp only [wS]); omega) | rfl) ))))); any_goals (apply a0e; rfl))); (all_goals (try (first | omega | (simp only; omega)))))
  ))
end Go.Vx.L58
set_option maxRecDepth 100000
namespace Go.Vx.L58
open Go Go.Proofs
def ptK (C : List Int) : Nat -> Int
 | 0 => 0
 | k + 1 => if C.getD k 0 = 6 then (k : Int) + 1 else ptK C k
def ptM (s : Scn) (i : Nat) : Int := ptK (a7s (owD (s.ns.getD i nd0)) (hrd ((a1v s.ns s.l).run M0 s.ns.length) i)) 8
def ptP (s : Scn) : Nat -> List Int
 | 0 => []
 | x + 1 => ptP s x ++ [ptM s x]
abbrev ptS (s : Scn) : List Int := ptP s s.ns.length
theorem b1c (s : Scn) : ∀ x, (ptP s x).length = x
 | 0 => rfl
 | x + 1 => by rw [ptP, List.length_append, b1c s x]; rfl
theorem b35 (s : Scn) : ∀ x y, y < x -> (ptP s x).getD y 0 = ptM s y
 | 0, y, h => by omega
 | x + 1, y, h => by
  have hl := b1c s x
  rw [ptP, List.getD_eq_getElem?_getD]
  by_cases hy : y < x
  ·rw [List.getElem?_append_left (by omega), <- List.getD_eq_getElem?_getD, b35 s x y hy]
  ·obtain rfl : y = x := by omega
   rw [List.getElem?_append_right (by omega), hl, Nat.sub_self]; rfl
theorem c4w (C : List Int) : ∀ k : Nat, 0 <= ptK C k /\ ptK C k <= k
 | 0 => by simp [ptK]
 | k + 1 => by
  have := c4w C k
  rw [ptK]; split <;> omega
theorem b5p {C C' : List Int} : ∀ k, (∀ i, i < k -> C.getD i 0 = C'.getD i 0) -> ptK C k = ptK C' k
 | 0, _ => rfl
 | k + 1, h => by rw [ptK, ptK, h k (by omega), b5p k fun i hi => h i (by omega)]
theorem c3p {C : List Int} : ∀ k, ptK C k ≠ 0 -> ∃ b, b < k /\ ptK C k = (b : Int) + 1 /\ C.getD b 0 = 6
 | 0, h => absurd rfl h
 | k + 1, h => by
  rw [ptK] at h ⊢
  by_cases h6 : C.getD k 0 = 6
  ·rw [if_pos h6]; exact ⟨k, by omega, rfl, h6⟩
  ·rw [if_neg h6] at h ⊢
   obtain ⟨b, h1, h2, h3⟩ := c3p k h
   exact ⟨b, by omega, h2, h3⟩
theorem c8l (s : Scn) (C : List Int) (x : Nat) : ∀ k, brK s C x k = if ptK C k = 0 then bm else upF s x (ptK C k)
 | 0 => rfl
 | k + 1 => by
  rw [brK, ptK]
  by_cases h6 : C.getD k 0 = 6
  ·rw [if_pos h6, if_pos h6, if_neg (by omega)]
  ·rw [if_neg h6, if_neg h6]; exact c8l s C x k
section
variable {s : Scn}
theorem d5k : M0 = fun _ _ => none := funext fun _ => funext fun _ => rfl
theorem b19 (ok : SOk s) (hc : ckS s = 0) (x : Nat) : ptM s x = ptK (cdS s x) 8 := by
 refine b5p 8 fun i hi => ?_
 rw [b3e ok hc x i hi, d5k]
 show (b1h _ (hrd _ x) (hrd _ x).length).getD i 0 = _
 rw [a52, a5q _ _ _ _ hi]
 rfl
theorem c3j (ok : SOk s) (hc : ckS s = 0) {x : Nat} (hx : x < s.ns.length) :
  (ptM s x = 0 /\ (trS s).getD x br0 = bm) \/ ((1 <= ptM s x /\ ptM s x <= 8) /\ (trS s).getD x br0 = upF s x (ptM s x) /\ ∃ y q : Nat, y < s.ns.length /\ ((trS s).getD x br0).p = y /\ a1h s.ns.length s.l x (ptM s x) = ((y : Int), (q : Int), true)) := by
 obtain ⟨hN, hn, _, _⟩ := a16 ok hc
 have hG := b2z hN
 rw [c43 s hx, c8l, <- b19 ok hc x]
 by_cases h0 : ptM s x = 0
 ·rw [if_pos h0]; exact .inl ⟨h0, rfl⟩
 rw [if_neg h0]
 right
 have hb8 := c4w (cdS s x) 8
 rw [<- b19 ok hc x] at hb8
 refine ⟨by omega, rfl, ?_⟩
 obtain ⟨b, hb, e1, e2⟩ := c3p 8 (by rw [<- b19 ok hc x]; exact h0)
 rw [<- b19 ok hc x] at e1
 rw [b3e ok hc x b hb] at e2
 have hmm : ∃ a d, mS s x (b + 1) = some (a, d) := by
  rcases b0w (mS s) x with ⟨h1, _⟩ | ⟨b', h1, h2, ⟨a, h3⟩, _⟩
  ·exfalso
   have hs : a2u ((gS s).ow x) (hrd (mS s) x) = true := by unfold a2u; rw [h1]; rfl
   exact b3m hs b e2
  ·cases hs : a2u ((gS s).ow x) (hrd (mS s) x) with
   | true => exact absurd e2 (b3m hs b)
   | false =>
    have := (b45 hs h1 b).1 e2
    subst this
    exact ⟨a, _, h3⟩
 obtain ⟨a, d, hmm⟩ := hmm
 have hVM := c8h hG (M := fun _ _ => none) (fun x p a d h => by cases h) s.ns.length
 obtain ⟨⟨y, q, hpe⟩, _⟩ := hVM x (b + 1) a d hmm
 obtain ⟨⟨_, hy⟩, _⟩ := hG.pe_ok _ _ _ _ hpe
 have hy : y < s.ns.length := hy
 have hpF := c4b hN hpe
 have e1' : ptM s x = ((b + 1 : Nat) : Int) := by omega
 refine ⟨y, q, hy, ?_, by rw [e1']; exact hpF⟩
 have hck := hN.parts.1
 have hpL : a2d s.l x ((b + 1 : Nat) : Int) = ((y : Int), (q : Int), true) := by rw [<- a3a hck (a := (x : Int)) (by omega) (by omega) _]; exact hpF
 rw [e1']
 have hu := b2b s x ((b + 1 : Nat) : Int) s.l.length 0 (by omega) (by rw [List.drop_zero, hpL])
 rw [List.drop_zero, hpL] at hu
 exact hu
theorem b8s (t : List Br) : ∀ k x j, j + 1 < (clF t k x).length -> 0 <= (t.getD ((clF t k x).getD j 0).toNat br0).p /\ (t.getD ((clF t k x).getD j 0).toNat br0).p = (clF t k x).getD (j + 1) 0
 | 0, x, j, h => by simp [clF] at h
 | k + 1, x, j, h => by
  rw [clF] at h ⊢
  by_cases hp : 0 <= (t.getD x br0).p
  ·rw [if_pos hp] at h ⊢
   cases j with
   | zero =>
    rw [List.getD_cons_zero, List.getD_cons_succ, b4z, Int.toNat_natCast]
    exact ⟨hp, by omega⟩
   | succ j =>
    rw [List.getD_cons_succ, List.getD_cons_succ]
    exact b8s t k _ j (by simpa using h)
  ·rw [if_neg hp] at h
   simp at h
theorem c4l (ok : SOk s) (hc : ckS s = 0) {m : Nat} (hm : (gS s).Best (dsN s.ns s.l) m) : ∀ (k f x : Nat), k <= f -> x < s.ns.length -> dsN s.ns s.l m x = k -> ((trS s).getD ((clF (trS s) f x).getD k 0).toNat br0).p = -1
 | 0, f, x, _, hx, hd => by
  have hp := (a9n ok hc hm hx hd).1 rfl
  rw [b4z, Int.toNat_natCast]; exact hp
 | k + 1, 0, x, h, _, _ => by omega
 | k + 1, f + 1, x, h, hx, hd => by
  obtain ⟨y, hy, hp, hdy⟩ := (a9n ok hc hm hx hd).2 (by omega)
  have ih := c4l ok hc hm k f y (by omega) hy (by omega)
  rw [clF, if_pos (by rw [hp]; omega), hp, Int.toNat_natCast, List.getD_cons_succ]
  exact ih
theorem c2v (ok : SOk s) (hc : ckS s = 0) {v : Nat} (hv : v < s.ns.length) : ((trS s).getD ((upL s v).getD ((upL s v).length - 1) 0).toNat br0).p = -1 := by
 obtain ⟨hN, hn, _, _⟩ := a16 ok hc
 have hG := b2z hN
 have hD := c2t hN
 obtain ⟨h1, h2, h3⟩ := b6m hG hD (c6x hN) (x := v) hv
 have h4 := b88 hG hD h1.1 (y := v) hv
 have hnn : (gS s).n = s.ns.length := rfl
 have hnn2 : (a1v s.ns s.l).n = s.ns.length := rfl
 generalize b4x (gS s).ow (dsN s.ns s.l v) v (gS s).n = c at *
 obtain ⟨k, hk⟩ := Int.eq_ofNat_of_zero_le h3
 have hw := c17 ok hc h1 k (s.ns.length - 1) v (by rw [hk] at h4; omega) hv hk
 have he := c4l ok hc h1 k (s.ns.length - 1) v (by rw [hk] at h4; omega) hv hk
 unfold upL
 rw [hw.1, Nat.add_sub_cancel]; exact he
theorem b3b {v j : Nat} (h : j + 1 < (upL s v).length) : 0 <= ((trS s).getD ((upL s v).getD j 0).toNat br0).p /\ ((trS s).getD ((upL s v).getD j 0).toNat br0).p = (upL s v).getD (j + 1) 0 := b8s _ _ _ _ h
end
end Go.Vx.L58
