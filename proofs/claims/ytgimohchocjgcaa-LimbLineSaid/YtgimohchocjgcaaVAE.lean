/- Whatever the evaluator says of an operation holds of the model: all operations. -/
import Derived.Test.YtgimohchocjgcaaVAD
set_option linter.unusedVariables false
set_option linter.unusedSimpArgs false
namespace Go.Proofs.Ytgimohchocjgcaa.V

variable {X : Ctx} {ρ : Nat → RI} {s : St} {a : Act} {w : World}

theorem pos_spec {pd : PD} {t : TypeId} (h : pd.pos t = true) : ∃ ti, pd.ti t = some ti ∧ 0 < ti.size := by
  unfold PD.pos at h
  split at h
  · rename_i ti hti; exact ⟨ti, hti, by simpa [Nat.blt_eq] using h⟩
  · cases h

theorem opBin_ok (hp : PDok X.P X.pd) {o : Oper} (op : BinOp) (t t' : TypeId) (x y : Operand) (ho : o.op = .binOp op t x y t') {env : Nat → Option Sg} {f : Eff} (h : opK X.pd env o s some = some f) : Does X o s f := by
  rw [opK_eq] at h
  unfold opK1 at h
  rw [ho] at h
  simp only at h
  split at h
  · rename_i p q hx hy
    split at h
    · -- quo
      split at h
      · rename_i m n
        obtain ⟨hn, h⟩ := must_true h
        rw [val_some h]
        refine does_bin_run _ t t' x y ho hx hy rfl rfl (vc := .int .i64 (wr (m.tdiv n))) rfl fun w => ?_
        have := run_quo (P := X.P) (w := w) .i64 m n (neI hn)
        simpa [eqGuard, binOp, wr] using this
      · rename_i m n
        obtain ⟨hn, h⟩ := must_true h
        rw [val_some h]
        refine does_bin_run _ t t' x y ho hx hy rfl rfl (vc := .int .u64 (m / n).toNat) rfl fun w => ?_
        have := run_quo (P := X.P) (w := w) .u64 m.toNat n.toNat (ne64 hn)
        rw [quo64] at this
        simpa [eqGuard, binOp] using this
      · rename_i m n
        obtain ⟨hn, h⟩ := must_true h
        rw [val_some h]
        refine does_bin_run _ t t' x y ho hx hy rfl rfl (vc := .int .u8 (m / n).toNat) rfl fun w => ?_
        have := run_quo (P := X.P) (w := w) .u8 m.toNat n.toNat (ne8 hn)
        rw [quo8] at this
        simpa [eqGuard, binOp] using this
      · cases h
    · -- rem
      split at h
      · rename_i m n
        obtain ⟨hn, h⟩ := must_true h
        rw [val_some h]
        refine does_bin_run _ t t' x y ho hx hy rfl rfl (vc := .int .i64 (m.tmod n)) (by simp [C.val]) fun w => ?_
        have := run_rem (P := X.P) (w := w) .i64 m n (neI hn)
        simpa [eqGuard, binOp] using this
      · rename_i m n
        obtain ⟨hn, h⟩ := must_true h
        rw [val_some h]
        refine does_bin_run _ t t' x y ho hx hy rfl rfl (vc := .int .u64 (m % n).toNat) rfl fun w => ?_
        have := run_rem (P := X.P) (w := w) .u64 m.toNat n.toNat (ne64 hn)
        rw [rem64] at this
        simpa [eqGuard, binOp] using this
      · rename_i m n
        obtain ⟨hn, h⟩ := must_true h
        rw [val_some h]
        refine does_bin_run _ t t' x y ho hx hy rfl rfl (vc := .int .u8 (m % n).toNat) rfl fun w => ?_
        have := run_rem (P := X.P) (w := w) .u8 m.toNat n.toNat (ne8 hn)
        rw [rem8] at this
        simpa [eqGuard, binOp] using this
      · cases h
    · -- shl
      split at h
      · rename_i n
        obtain ⟨hn, h⟩ := must_true h
        split at h
        · rename_i c hc
          obtain ⟨hn2, h⟩ := must_true h
          rw [val_some h]
          obtain ⟨vp, vc, h1, h2, h3⟩ := shift_int (P := X.P) t x y (.inl rfl) hn hn2 hc
          exact does_bin_run _ t t' x y ho hx hy h1 rfl h2 h3
        · cases h
      · split at h
        · rename_i c hc
          rw [val_some h]
          exact does_bin _ t t' x y ho hx hy hc (fun a b ha hb => by subst ha; subst hb; simp [binC] at hc)
        · cases h
    · -- shr
      split at h
      · rename_i n
        obtain ⟨hn, h⟩ := must_true h
        split at h
        · rename_i c hc
          obtain ⟨hn2, h⟩ := must_true h
          rw [val_some h]
          obtain ⟨vp, vc, h1, h2, h3⟩ := shift_int (P := X.P) t x y (.inr rfl) hn hn2 hc
          exact does_bin_run _ t t' x y ho hx hy h1 rfl h2 h3
        · cases h
      · split at h
        · rename_i c hc
          rw [val_some h]
          exact does_bin _ t t' x y ho hx hy hc (fun a b ha hb => by subst ha; subst hb; simp [binC] at hc)
        · cases h
    · split at h
      · rename_i c hc
        rw [val_some h]
        exact does_nilEq hp _ t t' x y ho hx hy hc
      · obtain ⟨hok, h⟩ := cond_some h
        split at h
        · rename_i c hc
          rw [val_some h]
          refine does_bin _ t t' x y ho hx hy hc (fun a b ha hb => ?_)
          subst ha; subst hb
          unfold binOk at hok
          simp only at hok
          split at hok
          · rename_i hti; exact (hp.ti _ _ hti).kind
          · cases hok
        · cases h
  · rename_i e l e' m hx hy
    split at h
    · rename_i m' hcast
      split at h
      · rename_i g b hv
        split at h
        · obtain ⟨hg, h⟩ := must_true h
          subst hg
          rw [val_some h]
          exact does_eqV hp _ t t' x y ho hx hy hcast hv (.inl ⟨rfl, rfl⟩)
        · obtain ⟨hg, h⟩ := must_true h
          subst hg
          rw [val_some h]
          exact does_eqV hp _ t t' x y ho hx hy hcast hv (.inr ⟨rfl, rfl⟩)
        · cases h
      · cases h
    · cases h
  · rename_i l m hx hy
    split at h
    · rename_i b hb
      split at h
      · rw [val_some h]; exact does_eqA hp _ t t' x y ho hx hy hb (.inl ⟨rfl, rfl⟩)
      · rw [val_some h]; exact does_eqA hp _ t t' x y ho hx hy hb (.inr ⟨rfl, rfl⟩)
      · cases h
    · cases h
  · cases h

theorem idx_ok (hp : PDok X.P X.pd) {o : Oper} (t : TypeId) (x i : Operand) (ho : o.op = .indexAddr t x i) {env : Nat → Option Sg} {f : Eff} (h : opK X.pd env o s some = some f) : Does X o s f := by
  rw [opK_eq] at h
  unfold opK1 at h
  rw [ho] at h
  simp only at h
  split at h
  · rename_i c n hx hi
    have one : ∀ j : Int, n = j → (match X.pd.idx t s c j with
        | some (g, d) => must g (val o (.u (.c d)) (idC c) some)
        | none => none) = some f → Does X o s f := by
      intro j hj h
      subst hj
      split at h
      · rename_i g d hd
        obtain ⟨hg, h⟩ := must_true h
        subst hg
        rw [val_some h]
        exact does_idx hp t x i ho hx hi hd
      · cases h
    split at h
    · obtain ⟨k, _, _, hk, h⟩ := pickN_spec h
      exact one k hk h
    · exact one n rfl h
  · cases h

theorem opIndex_ok (hp : PDok X.P X.pd) {o : Oper} (t : TypeId) (x i : Operand) (ho : o.op = .index t x i) {env : Nat → Option Sg} {f : Eff} (h : opK X.pd env o s some = some f) : Does X o s f := by
  rw [opK_eq] at h
  unfold opK1 at h
  rw [ho] at h
  simp only at h
  split at h
  · rename_i n et sz by' z e l j ht hx hi
    split at h
    · rename_i u hu
      obtain ⟨hel, hu⟩ := cond_some hu
      obtain ⟨hj, h⟩ := must_true h
      rw [val_some h]
      simp only [Bool.and_eq_true] at hj
      obtain ⟨k, hk, hkl⟩ := in_spec (n := j) (m := l.length) (by simp [hj.1, hj.2.2])
      subst hk
      obtain ⟨ei, hei, hes, _⟩ := elIs_spec hp hel
      have hkn : k < n := by simpa [ltI] using hj.2.1
      refine does_indexV (l := []) hp t x i ho ht hx (.inl ⟨e, l, rfl⟩) hi rfl hkn hei ?_ ?_
      · rw [hes, U.cells, flat_length, ← Nat.succ_mul]; exact Nat.mul_le_mul_right _ hkl
      · rw [hes, U.cells, flat_at e l k hkl]; simpa using hu
    · cases h
  · rename_i n et sz by' z l j ht hx hi
    split at h
    · rename_i ei hei
      obtain ⟨hfit, h⟩ := cond_some h
      obtain ⟨k, _, hkn, hj, h5⟩ := pickN_spec h
      subst hj
      split at h5
      · rename_i u hu
        rw [val_some h5]
        refine does_indexV (l := []) hp t x i ho ht hx (.inr ⟨l, rfl⟩) hi rfl (by omega) hei ?_ (by simpa [U.cells] using hu)
        have h1 : n * ei.size ≤ l.length := by simpa [Nat.ble_eq] using hfit
        rw [U.cells, ← Nat.succ_mul]
        exact Nat.le_trans (Nat.mul_le_mul_right _ (by omega)) h1
      · cases h5
    · cases h
  · rename_i sz by' z l j ht hx hi
    obtain ⟨hj, h⟩ := must_true h
    rw [val_some h]
    exact does_indexS hp t x i ho ht hx hi hj
  · cases h

theorem opConv_ok (hp : PDok X.P X.pd) {o : Oper} (src dst : TypeId) (x : Operand) (ho : o.op = .convert src dst x) {env : Nat → Option Sg} {f : Eff} (h : opK X.pd env o s some = some f) : Does X o s f := by
  rw [opK_eq] at h
  unfold opK1 at h
  rw [ho] at h
  simp only at h
  split at h
  · rename_i ts kd sz by' z c hs hd hx
    split at h
    · rename_i d hd'
      rw [val_some h]
      exact does_conv hp src dst x ho hs hd hx hd'
    · cases h
  · rename_i et sz by' z sz2 by2 z2 c hs hd hx
    split at h
    · rename_i sz3 by3 z3 het
      split at h
      · rename_i l hl
        obtain ⟨hns, h⟩ := cond_none h
        rw [val_some h]
        exact does_toStr hp src dst x ho (kind_slice hp hs) (hp.ti _ _ het).kind (kind_str hp hd) hx hl (fun r hr => by rw [hr] at hns; cases hns)
      · cases h
    · cases h
  · cases h

theorem opUn_ok (hp : PDok X.P X.pd) {o : Oper} (op : UnOp) (t : TypeId) (x : Operand) (ho : o.op = .unOp op t x) {env : Nat → Option Sg} {f : Eff} (h : opK X.pd env o s some = some f) : Does X o s f := by
  rw [opK_eq] at h
  unfold opK1 at h
  rw [ho] at h
  simp only at h
  split at h
  · rename_i b hx
    rw [val_some h]
    exact does_un _ t x ho hx rfl rfl fun w => by simp [Op.unary]
  · rename_i b hx
    rw [val_some h]
    refine does_un _ t x ho hx rfl (vc := .int .u64 (~~~b).toNat) rfl fun w => ?_
    obtain ⟨v, hv, hr⟩ := bin_ok (P := X.P) t x x w (op := .xor) (a := .u64 (-1)) (b := .u64 b) (c := .u64 (-1 ^^^ b)) rfl rfl rfl (fun p q h => by cases h)
    have e1 : (-1 : UInt64) ^^^ b = ~~~b := by apply UInt64.toBitVec_inj.1; simp
    rw [e1] at hv
    cases hv
    have e2 : (if IntKind.u64.signed = true then (-1 : Int) else IntKind.u64.max) = 18446744073709551615 := rfl
    simpa [eqGuard, binOp, Op.unary, e2] using hr
  · rename_i b hx
    rw [val_some h]
    refine does_un _ t x ho hx rfl (vc := .int .u32 (~~~b).toNat) rfl fun w => ?_
    obtain ⟨v, hv, hr⟩ := bin_ok (P := X.P) t x x w (op := .xor) (a := .u32 (-1)) (b := .u32 b) (c := .u32 (-1 ^^^ b)) rfl rfl rfl (fun p q h => by cases h)
    have e1 : (-1 : UInt32) ^^^ b = ~~~b := by apply UInt32.toBitVec_inj.1; simp
    rw [e1] at hv
    cases hv
    have e2 : (if IntKind.u32.signed = true then (-1 : Int) else IntKind.u32.max) = 4294967295 := rfl
    simpa [eqGuard, binOp, Op.unary, e2] using hr
  · rename_i b hx
    rw [val_some h]
    refine does_un _ t x ho hx rfl (vc := .int .i64 (wr (0 - b))) rfl fun w => ?_
    obtain ⟨v, hv, hr⟩ := bin_ok (P := X.P) t x x w (op := .sub) (a := .int 0) (b := .int b) (c := .int (wr (0 - b))) rfl rfl rfl (fun p q h => by cases h)
    cases hv
    simpa [eqGuard, binOp, Op.unary] using hr
  · rename_i b hx
    rw [val_some h]
    refine does_un _ t x ho hx rfl (vc := .int .u64 (0 - b).toNat) rfl fun w => ?_
    obtain ⟨v, hv, hr⟩ := bin_ok (P := X.P) t x x w (op := .sub) (a := .u64 0) (b := .u64 b) (c := .u64 (0 - b)) rfl rfl rfl (fun p q h => by cases h)
    cases hv
    simpa [eqGuard, binOp, Op.unary] using hr
  · cases h

theorem opK_ok (hp : PDok X.P X.pd) {env : Nat → Option Sg} (henv : ∀ f g, env f = some g → SgOK X.P X.pd.els f g) {o : Oper} {f : Eff} (h : opK X.pd env o s some = some f) : Does X o s f := by
  cases ho : o.op with
  | binOp op t x y t' => exact opBin_ok hp op t t' x y ho h
  | indexAddr t x i => exact idx_ok hp t x i ho h
  | index t x i => exact opIndex_ok hp t x i ho h
  | convert src dst x => exact opConv_ok hp src dst x ho h
  | unOp op t x => exact opUn_ok hp op t x ho h
  | move x =>
    simp only [opK_eq, opK1, ho] at h
    split at h
    · rename_i e et hn
      simp only [Option.some.injEq] at h
      subst h
      exact does_nil x (.inl ho) (nilRow_spec hn)
    · rw [val_some h]; exact does_move x (.inl ho)
  | assign x =>
    simp only [opK_eq, opK1, ho] at h
    split at h
    · rename_i e et hn
      simp only [Option.some.injEq] at h
      subst h
      exact does_nil x (.inr ho) (nilRow_spec hn)
    · rw [val_some h]; exact does_move x (.inr ho)
  | pick c x y =>
    simp only [opK_eq, opK1, ho] at h
    split at h
    · rename_i t hc
      cases t with
      | true => simp only [cond_true] at h; rw [val_some h]; exact does_pick c x y ho (t := true) hc
      | false => simp only [cond_false] at h; rw [val_some h]; exact does_pick c x y ho (t := false) hc
    · cases h
  | alloc t =>
    simp only [opK_eq, opK1, ho] at h
    split at h
    · rename_i u hu
      obtain ⟨hpos, hz⟩ := cond_some hu
      split at h
      · rename_i u' obs n hab
        split at h
        · rename_i g x hx
          obtain ⟨hg, h9⟩ := must_true h
          subst hg
          simp only [Option.some.injEq] at h9
          subst h9
          exact does_alloc hp t ho hpos hz hab hx
        · cases h
      · cases h
    · cases h
  | box t x =>
    simp only [opK_eq, opK1, ho] at h
    split at h
    · rename_i u hu
      split at h
      · rename_i g y hy
        obtain ⟨hc, hy⟩ := cond_some hy
        obtain ⟨hg, h9⟩ := must_true h
        subst hg
        simp only [Option.some.injEq] at h9
        subst h9
        simp only [Bool.and_eq_true] at hc
        obtain ⟨ti, hti, hpos⟩ := pos_spec hc.2
        exact does_box hp t x ho hti hpos hu hc.1 hy
      · cases h
    · cases h
  | load t x =>
    simp only [opK_eq, opK1, ho] at h
    split at h
    · rename_i id i sub hx
      split at h
      · rename_i y hy
        split at h
        · rename_i g u hr
          obtain ⟨hg, h⟩ := must_true h
          subst hg
          rw [val_some h]
          exact does_load_ptr hp t x ho hx hy hr
        · cases h
      · cases h
    · rename_i e l i sub hx
      split at h
      · rename_i g u hr
        obtain ⟨hg, h⟩ := must_true h
        subst hg
        rw [val_some h]
        exact does_load_rop hp t x ho hx hr
      · cases h
    · cases h
  | store t x v =>
    simp only [opK_eq, opK1, ho] at h
    split at h
    · rename_i id i sub u hx hu
      split at h
      · rename_i y hy
        split at h
        · rename_i g o' hw
          obtain ⟨hsol, hw⟩ := cond_some hw
          obtain ⟨hg, h9⟩ := must_true h
          subst hg
          simp only [Option.some.injEq] at h9
          subst h9
          exact does_store hp t x v ho hx hu hsol hy hw
        · cases h
      · cases h
    · cases h
  | nilCheck x =>
    simp only [opK_eq, opK1, ho] at h
    split at h
    · rename_i id i sub hx
      rw [val_some h]; exact does_nilCheck x ho hx (.inl ⟨_, _, _, rfl⟩)
    · rename_i e l i sub hx
      rw [val_some h]; exact does_nilCheck x ho hx (.inr ⟨_, _, _, _, rfl⟩)
    · cases h
  | sliceToArrayPointer t x =>
    simp only [opK_eq, opK1, ho] at h
    split at h
    · rename_i n et sz by' z c ht hx
      have hun : X.P.underlying t = some (.array n et) := (hp.ti _ _ ht).kind.1
      split at h
      · split at h
        · rename_i m ty e l hg
          obtain ⟨hn, h⟩ := cond_some h
          obtain ⟨hl, h⟩ := must_true h
          rw [val_some h]
          exact does_toArr t x ho hun (by simpa [Nat.blt_eq] using hn) hx (.inl ⟨_, m, ty, e, l, rfl, rfl, hg, by simpa [leI] using hl⟩)
        · cases h
      · split at h
        · rename_i r m ty e l hg
          obtain ⟨hn, h⟩ := cond_some h
          obtain ⟨hl, h⟩ := must_true h
          rw [val_some h]
          exact does_toArr t x ho hun (by simpa [Nat.blt_eq] using hn) hx (.inr (.inl ⟨_, _, _, r, m, ty, e, l, rfl, rfl, hg, by simpa [leI] using hl⟩))
        · cases h
      · rename_i e l
        obtain ⟨hn, h⟩ := cond_some h
        obtain ⟨hl, h⟩ := must_true h
        rw [val_some h]
        exact does_toArr t x ho hun (by simpa [Nat.blt_eq] using hn) hx (.inr (.inr ⟨e, l, rfl, rfl, by simpa [leI] using hl⟩))
      · cases h
    · cases h
  | makeSlice t n m =>
    simp only [opK_eq, opK1, ho] at h
    split at h
    · rename_i et sz by' z k k' ht hn hm
      split at h
      · rename_i ei e hei hel
        obtain ⟨hc, h⟩ := must_true h
        simp only [Bool.and_eq_true] at hc
        obtain ⟨h1, h2, h3, h4⟩ := hc
        simp only [Option.some.injEq] at h
        subst h
        have hk : k = k' := by simpa [eqI] using h2
        subst hk
        exact does_make hp t n m ho ht hei hel hn hm (by simpa [leI] using h1) (by simpa [Nat.blt_eq] using h3) (by simpa [leN] using h4)
      · cases h
    · cases h
  | slice t x lo hi mx =>
    cases mx with
    | some q => simp only [opK_eq, opK1, ho] at h; cases h
    | none =>
      simp only [opK_eq, opK1, ho] at h
      split at h
      · rename_i c l u hx hl hu
        split at h
        · rename_i g d hd
          obtain ⟨hg, h⟩ := must_true h
          subst hg
          rw [val_some h]
          exact does_part hp t x lo hi ho hx hl hu hd
        · cases h
      · cases h
  | fieldAddr t x f' =>
    simp only [opK_eq, opK1, ho] at h
    split at h
    · rename_i fs sz by' z c ht hx
      split at h
      · rename_i off ft hf
        split at h
        · rename_i fi hfi
          split at h
          · rename_i id i sub
            split at h
            · rename_i y hy
              obtain ⟨hc, h⟩ := cond_some h
              simp only [Bool.and_eq_true, Nat.blt_eq] at hc
              rw [val_some h]
              exact does_field hp t x f' ho ht hf hfi hc.1 hx (.inl ⟨id, i, sub, y, rfl, rfl, hy, hc.2⟩)
            · cases h
          · rename_i e l i sub
            obtain ⟨hc, h⟩ := cond_some h
            simp only [Bool.and_eq_true, Nat.blt_eq] at hc
            rw [val_some h]
            exact does_field hp t x f' ho ht hf hfi hc.1 hx (.inr ⟨e, l, i, sub, rfl, rfl, hc.2⟩)
          · cases h
        · cases h
      · cases h
    · cases h
  | field t x f' =>
    simp only [opK_eq, opK1, ho] at h
    split at h
    · rename_i fs sz by' z l ht hx
      split at h
      · rename_i off ft hf
        split at h
        · rename_i fi hfi
          split at h
          · rename_i u hu
            obtain ⟨hfit, h⟩ := cond_some h
            rw [val_some h]
            exact does_fieldV hp t x f' ho ht hx hf hfi (by simpa [Nat.ble_eq] using hfit) hu
          · cases h
        · cases h
      · cases h
    · cases h
  | build t parts =>
    simp only [opK_eq, opK1, ho] at h
    split at h
    · rename_i fs sz by' z ht
      split at h
      · rename_i z' obs n hab
        split at h
        · rename_i ps hps
          split at h
          · rename_i u hu
            simp only [Option.some.injEq] at h
            subst h
            exact does_buildS' hp t parts ho ht hab hps hu
          · cases h
        · cases h
      · cases h
    · rename_i k et sz by' z ht
      split at h
      · rename_i ei hei
        split at h
        · rename_i z' obs n hab
          split at h
          · rename_i ps hps
            split at h
            · rename_i u hu
              simp only [Option.some.injEq] at h
              subst h
              exact does_buildA' hp t parts ho ht hei hab hps hu
            · cases h
          · cases h
        · cases h
      · cases h
    · cases h
  | buildSlice t n parts =>
    simp only [opK_eq, opK1, ho] at h
    split at h
    · rename_i et sz by' z ht
      split at h
      · rename_i ei e hei hel
        split at h
        · rename_i ps hps
          split at h
          · rename_i l hl
            obtain ⟨hn, h⟩ := cond_some h
            simp only [Option.some.injEq] at h
            subst h
            exact does_buildSlice hp t n parts ho (kind_slice hp ht) hei hel hps hl (by simpa [Nat.ble_eq] using hn)
          · cases h
        · cases h
      · cases h
    · cases h
  | extract x i =>
    simp only [opK_eq, opK1, ho] at h
    split at h
    · rename_i l hx
      split at h
      · rename_i u hu
        rw [val_some h]
        exact does_extract x i ho hx hu
      · cases h
    · cases h
  | call c =>
    obtain ⟨cal, args, ts⟩ := c
    cases cal with
    | builtin b =>
      simp only [opK_eq, opK1, ho] at h
      exact opBuiltin_ok hp b args ts ho h
    | value x =>
      cases x with
      | func fn =>
        simp only [opK_eq, opK1, ho] at h
        exact opCall_ok henv fn args ts ho h
      | _ => simp only [opK_eq, opK1, ho] at h; cases h
    | invoke r n => simp only [opK_eq, opK1, ho] at h; cases h
  | _ => simp only [opK_eq, opK1, ho] at h; cases h

end Go.Proofs.Ytgimohchocjgcaa.V
