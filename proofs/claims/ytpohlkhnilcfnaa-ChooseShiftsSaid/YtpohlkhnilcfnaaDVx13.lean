/- Lemmas of a small executor for the model, and contracts of functions, used for the law that this claim proves. No condition. -/
import Derived.Test.YtpohlkhnilcfnaaDVx15
set_option linter.unusedSimpArgs false
set_option linter.unusedVariables false
namespace Go.Vx
variable {P : Program}

theorem ret_det {L : List Blk} {V : AV} {B : List Blk} {y : AV} {bs : Nat → Blk} (xs : Ix) (h1 : keepsIds L.length 0 xs = true) (h2 : xs.nodup = true) (h3 : rwOK L B) (h4 : sub xs.at V y) (h5 : subB xs.at bs xs B) :
    ∃ (V' : AV) (Bl : List Blk) (xs : Ix), keepsIds L.length 0 xs = true ∧ xs.nodup = true ∧ rwOK L Bl ∧ sub xs.at V' y ∧ subB xs.at bs xs Bl ∧ Det V B V' Bl := ⟨V, B, xs, h1, h2, h3, h4, h5, rfl, rfl⟩

theorem sub_int {ρ : Nat → Option Nat} {k : IntKind} {n m : Int} (h : m = n) : sub ρ (.val (.int k n)) (.val (.int k m)) := by simp [sub, h]
theorem sub_sb {ρ : Nat → Option Nat} {a b : Bool} (h : b = a) : sub ρ (.sb a) (.sb b) := by simp [sub, h]
theorem sub_sbl {ρ : Nat → Option Nat} {a b : Bool} (h : b = a) : sub ρ (.sb a) (.val (.bool b)) := by simp [sub, h]

theorem call_det {g : FuncId} {args : List AV} {bs : Nat → Blk} {sl : Nat} {K : AV → List (Nat × Blk) → Nat → Prop} (xs : Ix) {args' : List AV} {L : List Blk} {V : AV} {B : List Blk} (hR : Runs P g args' L (Det V B))
    (h1 : subL xs.at args' args) (h2 : subB xs.at bs xs L) (h3 : xs.nodup = true) (hK : K (V.ren (rb xs sl)) (upsOf xs sl xs L B 0) (upF sl L B)) : callK P g args bs sl K :=
  ⟨xs, args', L, _, hR, h1, h2, h3, by rintro _ _ ⟨rfl, rfl⟩; exact hK⟩

theorem loop_mk {L0 : List Blk} {body : (Ex → St → Prop) → St → Prop} {K : Ex → St → Prop} {s : St} {σ : Type} (S : σ → Sp) (μ : σ → Nat) (x0 : σ) (h0 : Le L0 (S x0) s)
    (hr : ∀ x, body (fun e s' => match e with
      | .normal => stop (∃ y, μ y < μ x ∧ Le L0 (S y) s')
      | e => K e s') (S x).st) : loopK L0 body K s := .inl ⟨σ, S, μ, ⟨x0, h0⟩, hr⟩
theorem loop_go {L0 : List Blk} {body : (Ex → St → Prop) → St → Prop} {K : Ex → St → Prop} {s : St} (n : Nat) (h : loopU body K n s) : loopK L0 body K s := .inr ⟨n, h⟩
theorem rw_or {p : Prop} (b : Bool) : p → b = true ∨ b = false := fun _ => by cases b <;> simp
theorem next_mk {L0 : List Blk} {σ : Type} {S : σ → Sp} {μ : σ → Nat} {x : σ} {s' : St} (y : σ) (h : μ y < μ x) (hl : Le L0 (S y) s') : ∃ y, μ y < μ x ∧ Le L0 (S y) s' := ⟨y, h, hl⟩

theorem sub_sl {ρ : Nat → Option Nat} {b x e off off' len len' : Nat} {cap : Option Nat} (h : ρ b = some x) (h1 : off' = off) (h2 : len' = len) : sub ρ (.sl b e off len cap) (.sl x e off' len' cap) := by
  subst h1; subst h2; exact .inl ⟨x, h, rfl⟩
theorem sub_nil {ρ : Nat → Option Nat} {b e off len : Nat} (h : len = 0) : sub ρ (.sl b e off len none) (.val (.slice none 0 0)) := .inr ⟨h, rfl, .inl rfl⟩
theorem sub_ptr {ρ : Nat → Option Nat} {b x e i i' j : Nat} (h : ρ b = some x) (h1 : i' = i) : sub ρ (.ptr b e i j) (.ptr x e i' j) := by subst h1; exact ⟨x, h, rfl⟩

theorem bsub_arr {ρ : Nat → Option Nat} {rw rw' : Bool} {t e n n' : Nat} {c c' : Nat → Nat → AV} (h1 : rw = true → rw' = true) (hn : n' = n) (hc : ∀ i, i < n → ∀ j, j < e → sub ρ (c i j) (c' i j)) : BSub ρ (.arr rw t e n c) (.arr rw' t e n' c') := by
  subst hn; exact .inl ⟨rw', t, n', c', ⟨rfl, Nat.le_refl _⟩, fun h => ⟨h1 h, rfl⟩, hc⟩

/-- A list's k-th, without a look at more than it needs. -/
def nth : List AV → Nat → AV
  | [], _ => .dead
  | v :: _, 0 => v
  | _ :: r, k + 1 => nth r k
/-- A row: the cells of each element. -/
def rowF {α : Type} (cells : α → List AV) (d : α) (l : List α) (i j : Nat) : AV := nth (cells (l.getD i d)) j

/-- Values that hold no address. -/
def flatV : AV → Prop
  | .dead => True
  | .val _ => True
  | .sb _ => True
  | _ => False
def Flat {α : Type} (cells : α → List AV) : Prop := ∀ x, ∀ v ∈ cells x, flatV v
theorem nth_mem : ∀ (l : List AV) (k : Nat), nth l k = .dead ∨ nth l k ∈ l
  | [], _ => .inl rfl
  | v :: _, 0 => .inr (by simp [nth])
  | _ :: r, k + 1 => (nth_mem r k).imp id fun h => List.mem_cons_of_mem _ h
theorem sub_flat {ρ : Nat → Option Nat} {v : AV} (h : flatV v) : sub ρ v v := by
  cases v <;> first | exact h.elim | simp [sub]
theorem sub_nth {α : Type} {cells : α → List AV} (h : Flat cells) (ρ : Nat → Option Nat) (x : α) (j : Nat) : sub ρ (nth (cells x) j) (nth (cells x) j) := by
  rcases nth_mem (cells x) j with e | e
  · rw [e]; simp [sub]
  · exact sub_flat (h x _ e)

theorem bsub_row {α : Type} {cells : α → List AV} {d : α} (hf : Flat cells) {ρ : Nat → Option Nat} {rw rw' : Bool} {t e n n' : Nat} {l l' : List α} (h1 : rw = true → rw' = true) (hn : n' = n) (hl : l' = l) :
    BSub ρ (.arr rw t e n (rowF cells d l)) (.arr rw' t e n' (rowF cells d l')) := by
  subst hl
  exact bsub_arr h1 hn fun i _ j _ => sub_nth hf ρ _ j

theorem ren_flat {ρ : Nat → Nat} {v : AV} (h : flatV v) : v.ren ρ = v := by cases v <;> first | exact h.elim | rfl
theorem ren_row {α : Type} {cells : α → List AV} (hf : Flat cells) (ρ : Nat → Nat) (d : α) (l : List α) (i j : Nat) : (rowF cells d l i j).ren ρ = rowF cells d l i j := by
  unfold rowF
  rcases nth_mem (cells (l.getD i d)) j with e | e
  · rw [e]; rfl
  · exact ren_flat (hf _ _ e)
/-- The same behind a call. -/
theorem bsub_rowr {α : Type} {cells : α → List AV} {d : α} (hf : Flat cells) {ρ : Nat → Option Nat} {ρ' : Nat → Nat} {rw rw' : Bool} {t e n n' : Nat} {l l' : List α} (h1 : rw = true → rw' = true) (hn : n' = n) (hl : l' = l) :
    BSub ρ (.arr rw t e n (rowF cells d l)) (.arr rw' t e n' fun i j => (rowF cells d l' i j).ren ρ') := by
  subst hl
  exact bsub_arr h1 hn fun i _ j _ => by rw [ren_row hf]; exact sub_nth hf ρ _ j

/-- A row behind an append. -/
theorem bsub_app {α : Type} {cells : α → List AV} {d : α} (hf : Flat cells) {ρ : Nat → Option Nat} {rw : Bool} {t e n m k : Nat} {l l' : List α} {c : Nat → Nat → AV} (hm : m = l.length) (hn : m + k = n) (hk : k = l'.length)
    (hc : ∀ i, i < k → ∀ j, j < e → sub ρ (nth (cells (l'.getD i d)) j) (c i j)) :
    BSub ρ (.arr rw t e n (rowF cells d (l ++ l'))) (.arr true t e (m + k) (appF m (rowF cells d l) c)) := by
  subst hm
  refine bsub_arr (fun _ => rfl) hn fun i hi j hj => ?_
  rcases Nat.lt_or_ge i l.length with h | h
  · rw [appF_lt h]
    have : (l ++ l').getD i d = l.getD i d := by simp [List.getD_eq_getElem?_getD, List.getElem?_append_left h]
    simp only [rowF, this]
    exact sub_nth hf ρ _ j
  · rw [appF_ge h]
    have : (l ++ l').getD i d = l'.getD (i - l.length) d := by simp [List.getD_eq_getElem?_getD, List.getElem?_append_right h]
    simp only [rowF, this]
    exact hc _ (by omega) j hj

/-- A row from nothing. -/
theorem bsub_new {α : Type} {cells : α → List AV} {d : α} {ρ : Nat → Option Nat} {rw : Bool} {t e n k : Nat} {l : List α} {c : Nat → Nat → AV} (hn : k = n)
    (hc : ∀ i, i < n → ∀ j, j < e → sub ρ (nth (cells (l.getD i d)) j) (c i j)) :
    BSub ρ (.arr rw t e n (rowF cells d l)) (.arr true t e k c) := bsub_arr (fun _ => rfl) hn hc

theorem cell1 {p : Nat → Prop} (h : p 0) : ∀ j, j < 1 → p j := fun j hj => by
  have : j = 0 := by omega
  subst this; exact h
theorem cell2 {p : Nat → Prop} (h : p 0) (h1 : p 1) : ∀ j, j < 2 → p j := fun j hj => by
  have : j = 0 ∨ j = 1 := by omega
  rcases this with rfl | rfl
  · exact h
  · exact h1
theorem cell3 {p : Nat → Prop} (h : p 0) (h1 : p 1) (h2 : p 2) : ∀ j, j < 3 → p j := fun j hj => by
  have : j = 0 ∨ j = 1 ∨ j = 2 := by omega
  rcases this with rfl | rfl | rfl
  · exact h
  · exact h1
  · exact h2

theorem wrapIn {n : Int} (h1 : -9223372036854775808 ≤ n) (h2 : n ≤ 9223372036854775807) : IntKind.i64.wrap n = n := by
  rw [IntKind.wrap_i64]; omega

theorem filter_take {α : Type} (p : α → Bool) (l : List α) (k : Nat) (d : α) (h : k < l.length) : (l.take (k + 1)).filter p = (l.take k).filter p ++ (bif p (l.getD k d) then [l.getD k d] else []) := by
  rw [List.take_add_one, List.getElem?_eq_getElem h, List.filter_append, List.getD_eq_getElem?_getD, List.getElem?_eq_getElem h]
  simp only [Option.toList_some, Option.getD_some]
  cases hp : p l[k] <;> simp [hp]

/-- Ints. -/
def intC : Int → List AV := fun n => [.val (.int .i64 n)]
abbrev intF (l : List Int) : Nat → Nat → AV := rowF intC 0 l
theorem intC_flat : Flat intC := fun x v h => by simp [intC] at h; subst h; trivial
/-- Cells without addresses are what they are, whatever the blocks' names. -/
theorem sub_refl_val (ρ : Nat → Option Nat) (v : Value) : sub ρ (.val v) (.val v) := rfl

end Go.Vx
