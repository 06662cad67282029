/- Lengths, copies, appends. -/
import Derived.Test.YtgimohchocjgcaaVP
set_option linter.unusedVariables false
set_option linter.unusedSimpArgs false
namespace Go.Proofs.Ytgimohchocjgcaa.V

variable {X : Ctx} {ρ : Nat → RI} {s : St} {a : Act} {w : World}

theorem does_nilCheck {o : Oper} (x : Operand) (ho : o.op = .nilCheck x) {c : C} (hx : X.pd.ev o.type s x = .u (.c c)) (hc : (∃ id i sub, c = .ptr id i sub) ∨ ∃ e l i sub, c = .rop e l i sub) {rd : List Nat} :
    Does X o s ⟨o.dst, .u (.c c), [], [], [], rd⟩ := by
  intro ρ a w Q h _
  have hv := ev_ok h o.type x
  rw [hx] at hv
  rcases hc with ⟨id, i, sub, rfl⟩ | ⟨e, l, i, sub, rfl⟩
  · obtain ⟨h1, h2, h3⟩ := hv
    refine wp_val h (x := a.eval x) ?_ (show RC X ρ (.ptr id i sub) _ from ⟨h1, h2, h3⟩)
    simp [execOp, ho, h3]
  · have hv' := hv
    obtain ⟨h1, h2, b, off, h3, h4⟩ := hv
    refine wp_val h (x := a.eval x) ?_ (show RC X ρ (.rop e l i sub) _ from hv')
    simp [execOp, ho, h3]

/-- A list's value and its cells. -/
theorem list_ok (h : Sim X ρ s a w) {c : C} {e : El} {l : List e.T} {v : Value} (hl : s.list c = some ⟨e, l⟩) (hv : RC X ρ c v) :
    (∃ r, c = .str r) ∨ (l = [] ∧ ∃ ad cap, v = .slice ad 0 cap) ∨ ∃ b off cap vs, v = .slice (some ⟨b, off, none⟩) l.length cap ∧ RCs X ρ (flat e l) vs ∧ (∀ j u, vs[j]? = some u → w.cell? ⟨b, off + j, none⟩ = some u) := by
  unfold St.list at hl
  split at hl
  · rename_i id
    right
    split at hl
    · rename_i n ty e' l' hg
      cases hl
      have hro := h.ob _ _ hg
      have e1 := hro.sz
      simp only [O.sz] at e1
      obtain ⟨hv, _⟩ := hv
      rcases row_val hro with ⟨h2, rfl⟩ | ⟨cap, h2, h3, h4⟩
      · left; exact ⟨rfl, none, 0, by rw [hv, h2]⟩
      · right
        by_cases hl0 : (flat e l).length = 0
        · refine ⟨_, _, cap, [], by rw [hv, h2], by rw [List.eq_nil_of_length_eq_zero hl0]; trivial, by simp⟩
        · obtain ⟨cs, hc1, hc2, hc3⟩ := hro.cell (o := 0) (n := (flat e l).length) (by simp [O.cells]) (by omega)
          refine ⟨_, _, cap, cs, by rw [hv, h2], by simpa [O.cells] using hc1, by simpa using hc3⟩
    · cases hl
  · rename_i id i n
    right
    obtain ⟨hlen, cap, hcap, hmax, hv⟩ := hv
    split at hl
    · rename_i rw' n' ty e' l' hg
      cases hl
      have hro := h.ob _ _ hg
      have e1 := hro.sz
      have e2 := hro.len
      simp only [O.sz, O.len] at e1 e2
      have hll : ((l'.drop i).take n).length = n := by simp; omega
      rcases hv with hv | ⟨hn, ad, hv⟩
      · right
        by_cases hl0 : n = 0
        · refine ⟨_, _, cap, [], by rw [hv, hll], by rw [flat_take, hl0]; simp [RCs], by simp⟩
        · have h5 : i * e.size + n * e.size ≤ (flat e l').length := by rw [flat_length, ← Nat.add_mul]; exact Nat.mul_le_mul_right _ (by omega)
          obtain ⟨cs, hc1, hc2, hc3⟩ := hro.cell (o := i * e.size) (n := n * e.size) h5 (Nat.mul_pos (by omega) (size_pos e))
          refine ⟨_, _, cap, cs, by rw [hv, hll], by rw [flat_take, flat_drop]; exact hc1, by rw [e1]; exact hc3⟩
      · left
        subst hn
        exact ⟨by simp, ad, cap, hv⟩
    · cases hl
  · rename_i e' l'
    cases hl
    right
    have hv : Holds X.w0 X.ok (.ro e l) v := hv
    cases hv with
    | sc h => cases h
    | ro f g1 g2 g3 g4 g5 =>
      rename_i b off cap
      obtain ⟨cs, hc1, hc2, hc3⟩ := ro_cells (ρ := ρ) h.fr (o := 0) (n := (flat e l).length) g3 g4 g5 (by simp)
      right
      refine ⟨b, off, cap, cs, rfl, by simpa using hc1, by simpa using hc3⟩
    | @emp _ ad cap => exact .inl ⟨rfl, ad, cap, rfl⟩
  · rename_i r
    exact .inl ⟨r, rfl⟩
  · cases hl

theorem lenC_spec {c : C} {n : Int} (h : lenC s c = some n) : (∃ l, c = .str l ∧ n = l.length) ∨ (∃ id i m, c = .sl id i m ∧ n = m) ∨ (∃ e l, s.list c = some ⟨e, l⟩ ∧ n = l.length) := by
  unfold lenC at h
  split at h
  · right; right
    split at h
    · rename_i hg; cases h; exact ⟨_, _, by simp [St.list, hg], rfl⟩
    · cases h
  · cases h; exact .inr (.inl ⟨_, _, _, rfl, rfl⟩)
  · cases h; exact .inr (.inr ⟨_, _, rfl, rfl⟩)
  · cases h; exact .inl ⟨_, rfl, rfl⟩
  · cases h

theorem len_val (h : Sim X ρ s a w) {c : C} {n : Int} {v : Value} (hn : lenC s c = some n) (hv : RC X ρ c v) : (∃ ad m cap, v = .slice ad m cap ∧ n = m) ∨ ∃ b : ByteArray, v = .string b ∧ n = b.size := by
  rcases lenC_spec hn with ⟨l, rfl, rfl⟩ | ⟨id, i, m, rfl, rfl⟩ | ⟨e, l, hl, rfl⟩
  · right
    have := val_of_RC (X := X) (ρ := ρ) (c := .str l) rfl hv
    exact ⟨_, this, by simp [ByteArray.size]⟩
  · left
    obtain ⟨hlen, cap, hcap, hmax, rfl | ⟨rfl, ad, rfl⟩⟩ := hv
    · exact ⟨_, _, _, rfl, rfl⟩
    · exact ⟨_, _, _, rfl, rfl⟩
  · rcases list_ok h hl hv with ⟨r, rfl⟩ | ⟨rfl, ad, cap, rfl⟩ | ⟨b, off, cap, vs, rfl, _⟩
    · right
      have := val_of_RC (X := X) (ρ := ρ) (c := .str r) rfl hv
      refine ⟨_, this, ?_⟩
      simp only [St.list, Option.some.injEq] at hl
      cases hl
      simp [ByteArray.size]
      rfl
    · left; exact ⟨_, _, _, rfl, rfl⟩
    · left; exact ⟨_, _, _, rfl, rfl⟩

theorem does_len {o : Oper} (hp : PDok X.P X.pd) (x : Operand) (t : TypeId) (ho : o.op = .call ⟨.builtin .len, #[x], #[t]⟩) {c : C} {n : Int} (hx : (X.pd.ev t s x).c? = some c) (hn : lenC s c = some n)
    (ht : (∃ et, X.P.underlying t = some (.slice et)) ∨ X.P.underlying t = some .string) {rd : List Nat} (hk : (∃ l, c = .str l) ↔ X.P.underlying t = some .string) : Does X o s ⟨o.dst, .u (.c (.int n)), [], [], [], rd⟩ := by
  intro ρ a w Q h _
  have hv := ev_c h hx
  refine wp_val h (x := .int .i64 n) ?_ (show RC X ρ (.int n) _ from RC_val rfl)
  rcases len_val h hn hv with ⟨ad, m, cap, hv2, rfl⟩ | ⟨b, hv2, rfl⟩
  · rcases ht with ⟨et, ht⟩ | ht
    · simp [execOp, ho, resolve, invoke, builtin, Builtin.len_, run_underlying ht, hv2, goInt]
    · exfalso
      obtain ⟨l, rfl⟩ := hk.2 ht
      have := val_of_RC (X := X) (ρ := ρ) (c := .str l) rfl hv
      rw [this] at hv2; cases hv2
  · rcases ht with ⟨et, ht⟩ | ht
    · exfalso
      have : ∃ l, c = .str l := by
        cases c with
        | str l => exact ⟨l, rfl⟩
        | row id => obtain ⟨_, a, n, c, h⟩ := hv; rw [hv2] at h; cases h
        | sl id i m => obtain ⟨_, cap, _, _, h | ⟨_, ad, h⟩⟩ := hv <;> rw [hv2] at h <;> cases h
        | ro e l =>
          have hv : Holds X.w0 X.ok (.ro e l) _ := hv
          rw [hv2] at hv
          cases hv with
          | sc h => cases h
        | _ => cases hn
      rw [hk.1 this] at ht; cases ht
    · simp [execOp, ho, resolve, invoke, builtin, Builtin.len_, run_underlying ht, hv2, goInt]

theorem does_lenArr {o : Oper} (x : Operand) (t : TypeId) (n : Nat) (e : TypeId) (ho : o.op = .call ⟨.builtin .len, #[x], #[t]⟩) (ht : X.P.underlying t = some (.array n e)) {rd : List Nat} : Does X o s ⟨o.dst, .u (.c (.int n)), [], [], [], rd⟩ := by
  intro ρ a w Q h _
  refine wp_val h (x := .int .i64 n) ?_ (show RC X ρ (.int n) _ from RC_val rfl)
  simp [execOp, ho, resolve, invoke, builtin, Builtin.len_, run_underlying ht, goInt]

theorem does_max2 {o : Oper} (x y : Operand) (ts : Array TypeId) (b : Builtin) (ho : o.op = .call ⟨.builtin b, #[x, y], ts⟩) {m n r : Int} (hx : (X.pd.ev 3 s x).c? = some (.int m)) (hy : (X.pd.ev 3 s y).c? = some (.int n))
    (hb : (b = .max ∧ r = mxI m n) ∨ (b = .min ∧ r = mnI m n)) {rd : List Nat} : Does X o s ⟨o.dst, .u (.c (.int r)), [], [], [], rd⟩ := by
  intro ρ a w Q h _
  have e1 := val_of_RC (X := X) (ρ := ρ) (c := .int m) rfl (ev_c h hx)
  have e2 := val_of_RC (X := X) (ρ := ρ) (c := .int n) rfl (ev_c h hy)
  refine wp_val h (x := .int .i64 r) ?_ (show RC X ρ (.int r) _ from RC_val rfl)
  rcases hb with ⟨rfl, rfl⟩ | ⟨rfl, rfl⟩
  · simp [execOp, ho, resolve, invoke, builtin, Builtin.max_, Builtin.max2, e1, e2, mxI, ltI]
  · simp [execOp, ho, resolve, invoke, builtin, Builtin.min_, Builtin.min2, e1, e2, mnI, ltI]

theorem does_min3 {o : Oper} (x y z : Operand) (ts : Array TypeId) (ho : o.op = .call ⟨.builtin .min, #[x, y, z], ts⟩) {m n k : Int} (hx : (X.pd.ev 3 s x).c? = some (.int m)) (hy : (X.pd.ev 3 s y).c? = some (.int n))
    (hz : (X.pd.ev 3 s z).c? = some (.int k)) {rd : List Nat} : Does X o s ⟨o.dst, .u (.c (.int (mnI (mnI m n) k))), [], [], [], rd⟩ := by
  intro ρ a w Q h _
  have e1 := val_of_RC (X := X) (ρ := ρ) (c := .int m) rfl (ev_c h hx)
  have e2 := val_of_RC (X := X) (ρ := ρ) (c := .int n) rfl (ev_c h hy)
  have e3 := val_of_RC (X := X) (ρ := ρ) (c := .int k) rfl (ev_c h hz)
  refine wp_val h (x := .int .i64 (mnI (mnI m n) k)) ?_ (show RC X ρ (.int _) _ from RC_val rfl)
  simp [execOp, ho, resolve, invoke, builtin, Builtin.min_, Builtin.min2, e1, e2, e3, mnI, ltI]
  by_cases hh : n < m <;> simp [hh] <;> (split <;> simp_all)

end Go.Proofs.Ytgimohchocjgcaa.V
