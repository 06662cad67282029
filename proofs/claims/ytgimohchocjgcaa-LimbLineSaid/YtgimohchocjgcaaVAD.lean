/- Whatever the evaluator says of an operation holds of the model. -/
import Derived.Test.YtgimohchocjgcaaVIC
set_option linter.unusedVariables false
set_option linter.unusedSimpArgs false
namespace Go.Proofs.Ytgimohchocjgcaa.V

variable {X : Ctx} {ρ : Nat → RI} {s : St} {a : Act} {w : World}

theorem shift_int {P : Program} (t : TypeId) (x y : Operand) {op : BinOp} (hop : op = .shl ∨ op = .shr) {p c : C} {n : Int} (h0 : leI 0 n = true) (h1 : ltI n 18446744073709551616 = true) (h : binC op p (.u64 (UInt64.ofNat n.toNat)) = some c) :
    ∃ vp vc, p.val = some vp ∧ c.val = some vc ∧ ∀ w, (do eqGuard op t x y vp (.int .i64 n); binOp op t vp (.int .i64 n) : Sem Value).run P w = .ok vc w := by
  obtain ⟨⟨vp, hp⟩, _⟩ := binC_vals h
  simp only [leI, ltI, decide_eq_true_eq] at h0 h1
  have hn : (UInt64.ofNat n.toNat).toNat = n.toNat := by simp; omega
  have hb : (C.u64 (UInt64.ofNat n.toNat)).val = some (.int .u64 n) := by
    simp only [C.val, hn]; rw [Int.toNat_of_nonneg h0]
  have hpi : ∃ k m, vp = .int k m := by
    rcases hop with rfl | rfl <;> cases p <;> simp [binC] at h <;> (simp only [C.val, Option.some.injEq] at hp; exact ⟨_, _, hp.symm⟩)
  obtain ⟨k, m, rfl⟩ := hpi
  obtain ⟨vc, hc, _⟩ := bin_ok (P := P) t x y default h hp hb (fun p q _ h => by cases h)
  refine ⟨_, vc, hp, hc, fun w => ?_⟩
  obtain ⟨vc', hc', hr⟩ := bin_ok (P := P) t x y w h hp hb (fun p q _ h => by cases h)
  rw [hc] at hc'
  cases hc'
  obtain ⟨j, rfl⟩ := Int.eq_ofNat_of_zero_le h0
  have e1 : ∀ yk w, (binOp op t (.int k m) (.int yk (j : Int))).run P w = (Op.shift op k m yk j).run P w := fun yk w => by rcases hop with rfl | rfl <;> rfl
  have e2 : ∀ yk w, (eqGuard op t x y (.int k m) (.int yk (j : Int))).run P w = .ok () w := fun yk w => by rcases hop with rfl | rfl <;> simp [eqGuard]
  rw [Sem.run_bind, e2, Result.andThen_ok, e1, run_shift _ _ _ _ _ hop] at hr ⊢
  exact hr

theorem opCall_ok {env : Nat → Option Sg} (henv : ∀ f g, env f = some g → SgOK X.P X.pd.els f g) {o : Oper} (fn : FuncId) (args : Array Operand) (ts : Array TypeId) (ho : o.op = .call ⟨.value (.func fn), args, ts⟩) {f : Eff}
    (h : opCall X.pd env fn args.toList ts.toList o s some = some f) : Does X o s f := by
  unfold opCall at h
  cases hg : env fn with
  | none => simp [hg] at h
  | some g =>
    simp only [hg] at h
    have hok := henv fn g hg
    cases hm : Nat.beq g.mode 0 with
    | false =>
      rw [hm] at h
      exact does_callIO fn args ts ho (hok.2 fun e => by rw [e] at hm; cases hm) h
    | true =>
      rw [hm] at h
      simp only [cond_true] at h
      have hok1 := hok.1 (Nat.beq_true hm)
      cases hus : reArgs X.pd s args.toList ts.toList with
      | none => simp [hus] at h
      | some us =>
        simp only [hus] at h
        cases hr : g.run us with
        | none => simp [hr] at h
        | some r =>
          simp only [hr, Option.bind_some] at h
          cases hab : abV X.pd (site o) (g.res r) with
          | none => simp [hab] at h
          | some q =>
            obtain ⟨v, obs, n⟩ := q
            simp only [hab, Option.some.injEq] at h
            subst h
            exact does_call fn args ts ho hok1 hus hr hab

theorem isStr_spec {c : C} : isStr c = true ↔ ∃ l, c = .str l := by
  cases c <;> simp [isStr]

theorem srcOk_spec {et : TypeId} {k : TK} {c : C} (h : srcOk et k c = true) : k = .slice et ∨ k = .str := by
  unfold srcOk at h
  split at h
  · cases h
  · left; rw [Nat.beq_true h]
  · right; rfl
  · cases h

theorem opBuiltin_ok (hp : PDok X.P X.pd) {o : Oper} (b : Builtin) (args : Array Operand) (ts : Array TypeId) (ho : o.op = .call ⟨.builtin b, args, ts⟩) {f : Eff}
    (h : opBuiltin X.pd b args.toList ts.toList o s some = some f) : Does X o s f := by
  unfold opBuiltin at h
  split at h
  · -- len
    rename_i x t ha hts
    have ha' : args = #[x] := by apply Array.ext'; simpa using ha
    have ht' : ts = #[t] := by apply Array.ext'; simpa using hts
    subst ha'; subst ht'
    split at h
    · rename_i n et sz by' z ht
      rw [val_some h]
      exact does_lenArr x t n et ho (hp.ti _ _ ht).kind.1
    · rename_i et sz by' z ht
      cases hx : (X.pd.ev t s x).c? with
      | none => simp [hx] at h
      | some c =>
        simp only [hx] at h
        obtain ⟨hns, h⟩ := cond_none h
        cases hn : lenC s c with
        | none => simp [hn] at h
        | some n =>
          simp only [hn] at h
          rw [val_some h]
          have hk := kind_slice hp ht
          refine does_len hp x t ho hx hn (.inl ⟨et, hk⟩) ?_
          rw [← isStr_spec, hns, hk]
          simp
    · rename_i sz by' z ht
      cases hx : (X.pd.ev t s x).c? with
      | none => simp [hx] at h
      | some c =>
        simp only [hx] at h
        obtain ⟨hns, h⟩ := cond_some h
        cases hn : lenC s c with
        | none => simp [hn] at h
        | some n =>
          simp only [hn] at h
          rw [val_some h]
          have hk := kind_str hp ht
          refine does_len hp x t ho hx hn (.inr hk) ?_
          rw [← isStr_spec, hns, hk]
          simp
    · cases h
  · -- max
    rename_i x y ha
    have ha' : args = #[x, y] := by apply Array.ext'; simpa using ha
    subst ha'
    split at h
    · rename_i m n hx hy
      rw [val_some h]
      exact does_max2 x y ts _ ho hx hy (.inl ⟨rfl, rfl⟩)
    · cases h
  · rename_i x y ha
    have ha' : args = #[x, y] := by apply Array.ext'; simpa using ha
    subst ha'
    split at h
    · rename_i m n hx hy
      rw [val_some h]
      exact does_max2 x y ts _ ho hx hy (.inr ⟨rfl, rfl⟩)
    · cases h
  · rename_i x y z ha
    have ha' : args = #[x, y, z] := by apply Array.ext'; simpa using ha
    subst ha'
    split at h
    · rename_i m n k hx hy hz
      rw [val_some h]
      exact does_min3 x y z ts ho hx hy hz
    · cases h
  · -- append
    rename_i x y t u ha hts
    have ha' : args = #[x, y] := by apply Array.ext'; simpa using ha
    have ht' : ts = #[t, u] := by apply Array.ext'; simpa using hts
    subst ha'; subst ht'
    split at h
    · rename_i et sz by' z tu ht hu
      split at h
      · rename_i ei id c hei hx hy
        split at h
        · rename_i m ty e l f' l2' hg hl
          split at h
          · rename_i l2 hcast
            obtain ⟨hc1, h⟩ := cond_some h
            obtain ⟨hc2, h⟩ := must_true h
            obtain ⟨h1, h2, h3, h4⟩ := beq4 hc1
            simp only [Option.some.injEq] at h
            subst h
            obtain rfl := Nat.beq_true h1
            obtain ⟨ti', hti', _, hel⟩ := elIs_spec hp h2
            have hk := kind_slice hp ht
            refine does_append hp x y t u ho hk ?_ hei hel hx hy hg hl hcast (by simpa [Nat.blt_eq] using h3) (by simpa [leN] using hc2)
            obtain ⟨k, sz2, by2, z2⟩ := tu
            rcases srcOk_spec h4 with hk' | hk'
            · simp only at hk'; subst hk'; exact .inl (kind_slice hp hu)
            · simp only at hk'; subst hk'; exact .inr (kind_str hp hu)
          · cases h
        · cases h
      · cases h
    · cases h
  · -- copy
    rename_i x y t u ha hts
    have ha' : args = #[x, y] := by apply Array.ext'; simpa using ha
    have ht' : ts = #[t, u] := by apply Array.ext'; simpa using hts
    subst ha'; subst ht'
    split at h
    · rename_i et sz by' z tu ht hu
      split at h
      · rename_i id i n c hx hy
        split at h
        · rename_i rw' m ty e l f' l2' hg hl
          split at h
          · rename_i l2 hcast
            obtain ⟨hc1, h⟩ := cond_some h
            simp only [Option.some.injEq] at h
            subst h
            simp only [Bool.and_eq_true] at hc1
            exact does_copy hp x y t u ho ht hc1.1 hx (.inl rfl) hg hy hl hcast
          · cases h
        · cases h
      · rename_i id c hx hy
        split at h
        · rename_i m ty e l f' l2' hg hl
          split at h
          · rename_i l2 hcast
            obtain ⟨hc1, h⟩ := cond_some h
            simp only [Option.some.injEq] at h
            subst h
            simp only [Bool.and_eq_true] at hc1
            exact does_copy hp x y t u ho ht hc1.1 hx (.inr ⟨rfl, rfl, rfl, rfl⟩) hg hy hl hcast
          · cases h
        · cases h
      · cases h
    · cases h
  · cases h

theorem nilRow_spec {pd : PD} {t : TypeId} {x : Operand} {e : El} {et : TypeId} (h : nilRow pd t x = some (e, et)) : x = .const (.slice none 0 0) := by
  unfold nilRow at h
  split at h
  · rfl
  · cases h

theorem pickN_spec {R : Type} {j : Int} {k : Nat → Option R} {r : R} : ∀ {m i : Nat}, pickN m i j k = some r → ∃ c, i ≤ c ∧ c < i + m ∧ j = (c : Int) ∧ k c = some r
  | 0, _, h => by cases h
  | m + 1, i, h => by
    unfold pickN at h
    cases hb : eqI j i with
    | true =>
      rw [hb] at h
      simp only [cond_true] at h
      exact ⟨i, Nat.le_refl _, by omega, by simpa [eqI] using hb, h⟩
    | false =>
      rw [hb] at h
      simp only [cond_false] at h
      obtain ⟨c, h1, h2, h3, h4⟩ := pickN_spec h
      exact ⟨c, by omega, by omega, h3, h4⟩

end Go.Proofs.Ytgimohchocjgcaa.V
