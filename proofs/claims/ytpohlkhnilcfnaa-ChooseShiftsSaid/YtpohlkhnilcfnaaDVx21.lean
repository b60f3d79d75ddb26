/- Lemmas of a small executor for the model, and contracts of functions, used for the law that this claim proves. No condition. -/
import Derived.Test.YtpohlkhnilcfnaaDVx20
import Derived.ChangeSame
import Derived.JoinedOf
import Derived.JoinedAt
import Derived.Carry
import Derived.ProofKit
import Derived.OpenShut
import Derived.ReadAgain
import Derived.RowKit2
import Derived.RowKit3
import Derived.Deep.Slices
import Derived.Deep.Fields
import Derived.Handed
import Derived.ChangeCalls
set_option linter.unusedSimpArgs false
set_option linter.unusedVariables false
/- From a contract of a law's function to the given statement. -/
namespace Go.Vx
open Go.ChangeShapes Go.WideShapes Go.RowKit Go.Deep
section
variable {H : Type} {enc : TypeId × Value → H} {P : Program}

theorem below_post {f : Func} {s : ChangeSpec} {apart fresh handsOn again : Bool} {W W' : World} {args : Array Value} {v : Value} {ds gs : List (DataW H)} {before pa pv : List MemPlace}
    (hW : DataW.Whole enc P f.params.toList s.vars apart W args.toList ds gs before)
    (hres : ∀ (b : Nat) (sp : Nat → Bool) (hd : Bool), DataW.TrodAll enc P W' b sp hd f.resultTypes.toList (v.resultList f.resultTypes.size) (s.fn H (ds ++ gs)).results [])
    (hargs : ∀ sp : Nat → Bool, (∀ p ∈ before, sp p.block = true) → DataW.TrodAll enc P W' 0 sp true f.params.toList args.toList (s.fn H (ds ++ gs)).args pa)
    (hvars : ∀ sp : Nat → Bool, (∀ p ∈ before, sp p.block = true) → DataW.TrodVars enc P W' sp s.vars (s.fn H (ds ++ gs)).vars pv)
    (hps : before = pa ++ pv) (hb : Below W.heap.size W W')
    (hok : ∀ (j : Nat) (t : TypeId) (r : Value), f.resultTypes[j]? = some t → (v.resultList f.resultTypes.size)[j]? = some r → Value.okWide P W' .any 0 t r) :
    s.post enc P f apart fresh handsOn again W args v W' := by
  have hlt : ∀ p ∈ before, p.block < W.heap.size := fun p hp => hW.lt p hp
  have hold : ∀ p ∈ before, (fun b => decide (b < W.heap.size)) p.block = true := fun p hp => by simpa using hlt p hp
  refine ⟨ds, gs, before, [], pa, pv, hW, hres _ _ _, hargs _ hold, hvars _ hold, World.keptBut_mono (fun p hp => ⟨hp, ?_⟩) (hb.frame (· ∈ before)), fun _ => ?_⟩
  · rw [hps, List.mem_append] at hp
    exact Or.inr hp
  · obtain ⟨_, _, _, _, _, hz, hn⟩ := hW
    refine ⟨hok, _, _, ([] ++ pa) ++ pv, ⟨[] ++ pa, pv, trodAll_append (hargs _ (fun _ _ => rfl)) (hres _ _ _), hvars _ (fun _ _ => rfl), rfl, ?_, ?_⟩, ?_⟩
    · intro b off hp
      have hin : MemPlace.cell b off ∈ before := by rw [hps]; simpa using hp
      rw [hb.frozen (hlt _ hin)]
      exact hz b off hin
    · intro ha
      have := hn ha
      rw [hps] at this
      simpa using this
    · intro p hp _
      rw [hps]
      simpa using hp

/-- All arguments read as they did, where below the heap's old size nothing has turned. -/
theorem stays_all (hl : laidOutB P = true) {W W' : World} (hb : Below W.heap.size W W') {sp : Nat → Bool} : ∀ (ts : List TypeId) (vs : List Value) (ds : List (DataW H)) (ps : List MemPlace), (∀ t ∈ ts, P.readableRec t = true ∧ t < P.types.size) →
    DataW.TrodAll enc P W 0 (fun _ => true) true ts vs ds ps → (∀ p ∈ ps, p.block < W.heap.size ∧ sp p.block = true) → DataW.TrodAll enc P W' 0 sp true ts vs ds ps
  | [], [], [], _, _, h, _ => h
  | t :: ts, v :: vs, d :: ds, ps, ht, ⟨p, q, h1, h2, e⟩, hp => by
    subst e
    refine ⟨p, q, WideElems.Trod_stays hl (ht t (by simp)).1 (ht t (by simp)).2 h1 (fun x hx => hb.same (hp x (by simp [hx])).1) (fun x hx => (hp x (by simp [hx])).2), ?_, rfl⟩
    exact stays_all hl hb ts vs ds q (fun t h => ht t (by simp [h])) h2 fun x hx => hp x (by simp [hx])

theorem law_lift {C : Checked} {os : Os} {f : FuncId} {fn : Func} {s : ChangeSpec} {conds : List PathCond} (own : ownKnob C.prog.godebug = none) (started : os.Started) (noInit : C.prog.inits.idxOf? f = none) (hfn : C.prog.funcs[f]? = some fn)
    (witness : ∃ (w : World) (tape : Tape) (i : Input), w.os = os ∧ (w.forCall tape i).Shaped C.prog ∧ i.vars = [] ∧ Input.okWide C.prog (w.forCall tape i) .any w.heap.size f i ∧
      s.pre6 enc C.prog fn conds false (w.forCall tape i).memory i.args ∧ ({} : Assume).holds C.prog (lone (Frame.enter C.prog f i.args .normal) [] (w.forCall tape i)))
    (hl : laidOutB C.prog = true) (hr : fn.params.toList.all (fun t => C.prog.readableRec t && decide (t < C.prog.types.size)) = true) {tb : TypeId} (hres : fn.resultTypes = #[tb]) (htb : C.prog.underlying tb = some .bool) (hvars : s.vars = [])
    (hs : ∀ ds : List (DataW H), ds.length = fn.params.toList.length → s.fn H ds = { results := [.lit (.bool true)], args := ds })
    (hcall : ∀ (W : World) (args : Array Value) (ds : List (DataW H)) (p : List MemPlace), DataW.TrodAll enc C.prog W 0 (fun _ => true) true fn.params.toList args.toList ds p →
      (∀ (j : Nat) t v, fn.params[j]? = some t → args[j]? = some v → ∃ base, Value.okWide C.prog W .any base t v) → (∀ x ∈ p, x.block < W.heap.size) → Calls C.prog f args W fun e W' => e = .returned (.bool true) ∧ Below W.heap.size W W') :
    ReturnsInHanded {} C os f .any (s.pre6 enc C.prog fn conds false) (s.post enc C.prog fn false true false false) := by
  refine returnsInHanded_of_change own started noInit hfn witness ?_
  intro W base args ds gs before hval hW _ _
  have hW' := hW
  obtain ⟨p, q, hA, hV, rfl, _, _⟩ := hW
  rw [hvars] at hV
  obtain ⟨rfl, rfl⟩ := trodVars_none hV
  have hlt : ∀ x ∈ p ++ [], x.block < W.heap.size := fun x hx => hW'.lt x hx
  simp only [List.append_nil] at hW' hlt
  refine (hcall W args ds p hA (fun j t v h1 h2 => ⟨base, hval j t v h1 h2⟩) hlt).mono ?_
  rintro e W' ⟨rfl, hb⟩
  have hlen : ds.length = fn.params.toList.length := (Go.trodAll_length hA).2
  have hsp := hs ds hlen
  have hr' : ∀ t ∈ fn.params.toList, C.prog.readableRec t = true ∧ t < C.prog.types.size := fun t ht => by
    have := List.all_eq_true.1 hr t ht
    simpa using this
  refine ⟨_, rfl, below_post (pa := p) (pv := []) hW' (fun b sp hd => ?_) (fun sp hsp' => ?_) (fun _ _ => ?_) (by simp) hb (ok_one hres rfl (okWide_bool_mk htb true))⟩
  · rw [List.append_nil, hsp, hres]
    exact trodAll_mk1 (shut_bool htb true)
  · rw [List.append_nil, hsp]
    exact stays_all hl hb _ _ _ _ hr' hA fun x hx => ⟨hlt x hx, hsp' x (by simpa using hx)⟩
  · rw [List.append_nil, hsp, hvars]
    rfl

/-- The fields are ints of these kinds. -/
def kindsB (P : Program) : List Field → List IntKind → Bool
  | [], [] => true
  | f :: fs, k :: ks => (match P.underlying f.type with | some (.int k') => kEq k' k | _ => false) && kindsB P fs ks
  | _, _ => false
theorem kindsB_get : ∀ (fs : List Field) (ks : List IntKind), kindsB P fs ks = true → ∀ (j : Nat) (f : Field), fs[j]? = some f → P.underlying f.type = some (.int (ks.getD j .i64))
  | [], [], _, j, f, h => by simp at h
  | [], _ :: _, h, _, _, _ => by simp [kindsB] at h
  | _ :: _, [], h, _, _, _ => by simp [kindsB] at h
  | g :: fs, k :: ks, h, j, f, hj => by
    simp only [kindsB, Bool.and_eq_true] at h
    cases j with
    | zero =>
      simp only [List.getElem?_cons_zero, Option.some.injEq] at hj
      subst hj
      have h1 := h.1
      split at h1
      · rename_i k' hk
        rw [hk, kEq_eq h1]; rfl
      · cases h1
    | succ j =>
      simp only [List.getElem?_cons_succ] at hj
      simpa using kindsB_get fs ks h.2 j f hj

/-- What is read of a slice of flat structs of ints. -/
theorem open_rows {W : World} {t e : TypeId} {fs : Array Field} {base : Nat} {v : Value} {d : DataW H} {p : List MemPlace} (ht : P.underlying t = some (.slice e)) (he : P.underlying e = some (.struct fs))
    (hone : oneCellFields P fs = true) (hC : P.cellsOf e = fs.size) (K : Nat → IntKind) (hK : ∀ (j : Nat) (f : Field), fs[j]? = some f → P.underlying f.type = some (.int (K j))) (hval : Value.okWide P W .any base t v)
    (hd : DataW.Trod enc P W 0 (fun _ => true) true t v d p) (hpos : 0 < fs.size) :
    ∃ (n : Nat) (F : Nat → Nat → Int) (cap : Option Nat) (o : Option Loc), n ≤ maxLen ∧ (∀ lc, o = some lc → lc.g < W.heap.size) ∧ (∀ i, i < n → ∀ j, j < fs.size → (Lit.int (K j) (F i j)).wf = true) ∧
      ∀ (ι : Lay) (b : Nat), ι b = o → rel ι (.sl b fs.size 0 n cap) v ∧ ∀ c : Nat → Nat → AV, (∀ i, i < n → ∀ j, j < fs.size → c i j = .val (.int (K j) (F i j))) → BR ι W b (.arr false e fs.size n c) := by
  obtain ⟨a0, len0, cap0, rfl⟩ := okWide_slice ht hval
  obtain ⟨fuel, hf⟩ := hd
  have hcs0 : (Value.slice a0 len0 cap0).cells.toList = [Value.slice a0 len0 cap0] := rfl
  rcases open_slice ht hf with ⟨hcs, hx⟩ | ⟨a, len, cap, m, n, D, Pl, hcs, _, hl, hm, hmm, hx, hi⟩
  · simp only [Value.cells] at hcs
    simp at hcs
    obtain ⟨rfl, rfl, rfl⟩ := hcs
    refine ⟨0, fun _ _ => 0, some 0, none, Nat.zero_le _, fun lc h => (by cases h), fun i h => absurd h (by omega), fun ι b hb => ⟨?_, fun c _ => .inl ⟨rfl, hb⟩⟩⟩
    simp only [rel]
    exact ⟨none, 0, rfl, Nat.le_refl _, fun q hq => by simpa using hq, fun h => absurd h (by omega)⟩
  · simp only [Value.cells] at hcs
    simp at hcs
    obtain ⟨rfl, rfl, rfl⟩ := hcs
    simp only [if_true] at hmm
    subst hmm
    -- each element's cells
    have key : ∀ i, i < m → ∀ j, j < fs.size → ∃ z, W.cell? (a.add (i * fs.size + j)) = some (.int (K j) z) ∧ (Lit.int (K j) z).wf = true := by
      intro i him j hj
      obtain ⟨cs', hc, ht'⟩ := hi i him
      rw [hC] at hc
      obtain ⟨ys, n', hn', hy, hlen, hyl, hfl⟩ := DataW.trod_struct he ht'
      obtain ⟨_, hcl, hat⟩ := World.cells?_some hc
      obtain ⟨ho, hk⟩ := hone_of hone j fs[j] (by simp [hj])
      have hcell := hat j hj
      have h1 := hfl j fs[j] (by simp [hj])
      rw [ho, hk] at h1
      have hone' : (cs'.drop j).take 1 = [cs'[j]'(by omega)] := by
        rw [List.drop_eq_getElem_cons (by omega)]
        rfl
      rw [hone'] at h1
      have hys : ys[j]? = some (ys[j]'(by omega)) := List.getElem?_eq_getElem (by omega)
      rw [hys] at h1
      obtain ⟨z, hz1, _, hz3⟩ := DataW.trod_int (hK j fs[j] (by simp [hj])) h1
      simp only [List.cons.injEq, and_true] at hz1
      refine ⟨z, ?_, hz3⟩
      rw [← Go.Deep.add_add, hcell, List.getElem?_eq_getElem (by omega), hz1]
    have spot : 0 < m → a.spot = none ∧ a.block < W.heap.size := by
      intro hm0
      obtain ⟨z, hz, _⟩ := key 0 hm0 0 hpos
      have e0 : a.add (0 * fs.size + 0) = a := by simp [Addr.add]
      rw [e0] at hz
      unfold World.cell? at hz
      split at hz
      · rename_i c t' f' hh
        refine ⟨?_, (Array.getElem?_eq_some_iff.1 hh).1⟩
        cases hs : a.spot with
        | none => rfl
        | some q => simp [hs] at hz
      · cases hz
    refine ⟨len0, fun i j => if h : i < m ∧ j < fs.size then (key i h.1 j h.2).choose else 0, some m, (if 0 < m then some ⟨a.block, a.off, m⟩ else none), Nat.le_trans hl hm, ?_, ?_, ?_⟩
    · intro lc h
      split at h
      · rename_i hm0
        simp only [Option.some.injEq] at h
        subst h
        exact (spot hm0).2
      · cases h
    · intro i hi' j hj
      have hc : i < m ∧ j < fs.size := ⟨by omega, hj⟩
      simp only [dif_pos hc]
      exact (key i hc.1 j hc.2).choose_spec.2
    · intro ι b hb
      have haddr : 0 < m → some a = some (⟨a.block, a.off + 0 * fs.size, none⟩ : Addr) := by
        intro hm0
        obtain ⟨blk, off, sp⟩ := a
        simp only at spot
        rw [(spot hm0).1]; simp
      refine ⟨?_, fun c hc => ?_⟩
      · simp only [rel]
        refine ⟨some a, m, rfl, hl, fun q hq => by simpa using hq, fun hm0 => ?_⟩
        rw [if_pos hm0] at hb
        exact ⟨_, hb, haddr hm0, fun h => by cases h⟩
      · by_cases hm0 : 0 < m
        · rw [if_pos hm0] at hb
          refine .inr ⟨_, hb, hl, fun i hi' j hj => ?_, fun h => by cases h⟩
          have hcc : i < m ∧ j < fs.size := ⟨by omega, hj⟩
          have hk := (key i hcc.1 j hj).choose_spec.1
          refine ⟨.int (K j) (key i hcc.1 j hj).choose, ?_, rfl, ?_⟩
          · rw [← hk]
            congr 1
            by_cases h0 : i * fs.size + j = 0
            · rw [h0]
              have := haddr hm0
              simp only [Option.some.injEq] at this
              simp only [Addr.add, if_true]
              rw [this]; simp
            · rw [Addr.add, if_neg h0]
          · rw [hc i hi' j hj]
            simp only [dif_pos hcc]
            simp [rel]
        · rw [if_neg hm0] at hb
          exact .inl ⟨by omega, hb⟩

/-- From a contract whose blocks are all lent to be read alone, to a call. -/
theorem calls_of_runs {f : FuncId} {args' : List AV} {L : List Blk} {B : List Blk} (h : Runs P f args' L (Det (.sb true) B)) (hro : ∀ b, (blL L b).rw = false) {W : World} {args : Array Value} (ι : Lay) (hι : ∀ b, L.length ≤ b → ι b = none)
    (hlt : ∀ b lc, ι b = some lc → lc.g < W.heap.size) (hbr : ∀ b, BR ι W b (blL L b)) (ha : relL ι args' args.toList) :
    Calls P f args W fun e W' => e = .returned (.bool true) ∧ Below W.heap.size W W' := by
  have hW : WR (ambOf ι (blL L) W) ι (blL L) W := {
    br := hbr
    sep := fun b b' l l' _ hr _ _ _ => by rw [hro b] at hr; cases hr
    lt := hlt
    amb := Keeps.refl _ _
    own := fun b l hr _ => by rw [hro b] at hr; cases hr }
  have := h.2 W ι args.toList hW hι ha
  rw [Array.toArray_toList] at this
  refine this.mono ?_
  rintro e W' ⟨V, Bl, v, ι', rfl, ⟨rfl, rfl⟩, _, hv, _, _, _, hw⟩
  simp only [rel] at hv
  subst hv
  refine ⟨rfl, ⟨hw.amb.os, hw.amb.tape, hw.amb.output, hw.amb.size, fun k hk => hw.amb.block k hk ?_⟩⟩
  rintro ⟨b, l, hr, _⟩
  rw [hro b] at hr; cases hr
end
end Go.Vx
