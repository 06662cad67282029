/- Functions: whatever the evaluator says of a function holds of its calls. -/
import Derived.Test.YtgimohchocjgcaaVAL
set_option linter.unusedVariables false
set_option linter.unusedSimpArgs false
namespace Go.Proofs.Ytgimohchocjgcaa.V

variable {X : Ctx} {ρ : Nat → RI} {s : St} {a : Act} {w : World} {R : Type} {env : Nat → Option Sg} {ret : St → Option R} {lp : Lp R} {r : R}

/-! ### Loops -/

theorem Kc_some {sh : Shape} {nm : St → St} {out : Ex} {A E : sh.T → Option R} {e : Ex} {s : St} (h : Kc sh.dec nm out.is A E e s = some r) :
    (e = .normal ∧ ∃ x, sh.dec (nm s) = some x ∧ A x = some r) ∨ (e ≠ .normal ∧ (e = out ∧ out.is e = true) ∧ ∃ x, sh.dec (nm s) = some x ∧ E x = some r) := by
  unfold Kc at h
  split at h
  · split at h
    · rename_i x hx
      exact .inl ⟨rfl, x, hx, h⟩
    · cases h
  · rename_i hne
    obtain ⟨h1, h2⟩ := cond_some h
    split at h2
    · rename_i x hx
      refine .inr ⟨hne, ⟨?_, h1⟩, x, hx, h2⟩
      cases e <;> cases out <;> simp [Ex.is] at h1 <;> first | rfl | rw [h1]
    · cases h2

theorem mkLp_ok (hp : PDok X.P X.pd) (henv : ∀ f g, env f = some g → SgOK X.P X.pd.els f g) (N : Nat) (tab : List (Nat × Head)) : ∀ d, LpOK X ret (mkLp X.pd env ret N tab d) r
  | 0 => ⟨fun key c s k Q ρ a w _ h => by (cases h), fun l c s k Q ρ a w h => by (cases h)⟩
  | d + 1 => by
    have ih := mkLp_ok hp henv N tab d
    -- what a loop's head tells
    have head : ∀ key c s k, mkLp X.pd env ret N tab (d + 1) key c s k = some r → ∃ hd : Head, ∃ x, hd.sh.dec (hd.sh.norm key s) = some x ∧
        loopN (fun A x => exec X.pd env ret (mkLp X.pd env ret N tab d) c (hd.sh.enc x) (wrapK key (Kc hd.sh.dec (hd.sh.norm key) hd.out.is A fun y => k hd.out (hd.sh.enc y)))) N x = some r := by
      intro key c s k h
      have h' : (match look key tab with
        | some hd => oneLp (fun _ => loopN) X.pd env ret N (mkLp X.pd env ret N tab d) hd key c s k
        | none => none) = some r := h
      cases hl : look key tab with
      | none => rw [hl] at h'; cases h'
      | some hd =>
        rw [hl] at h'
        unfold oneLp at h'
        simp only at h'
        cases hx : hd.sh.dec (hd.sh.norm key s) with
        | none => rw [hx] at h'; cases h'
        | some x => rw [hx] at h'; exact ⟨hd, x, hx, h'⟩
    refine ⟨fun key c s k Q ρ a w hkey h hs hk hr => ?_, fun l c s k Q ρ a w h hs hk hr => ?_⟩
    · obtain ⟨hd, x, hx, h⟩ := head key c s k h
      obtain ⟨ρ1, hs1⟩ := hs.norm hd.sh key
      have hwr : ∀ k' : Kn R, wrapK key k' = k' := fun k' => by
        unfold wrapK
        have : Nat.blt key 1000 = true := by rw [Nat.blt_eq]; exact hkey
        rw [this]; rfl
      simp only [hwr] at h
      refine wp_loop_ind (fun n a w => ∃ x ρ, loopN (fun A x => exec X.pd env ret (mkLp X.pd env ret N tab d) c (hd.sh.enc x) (Kc hd.sh.dec (hd.sh.norm key) hd.out.is A fun y => k hd.out (hd.sh.enc y))) n x = some r ∧ Sim X ρ (hd.sh.enc x) a w)
        (n := N) ⟨x, ρ1, h, hs1.dec hx⟩ ?_
      rintro n a w ⟨x, ρ, h, hs⟩
      cases n with
      | zero => cases h
      | succ n =>
        refine (ex2_ok hp henv ih c).1 _ _ _ ρ a w h hs ?_ (fun s' ρ' a' w' h1 h2 => hr s' ρ' a' w' h1 h2)
        intro e s' ρ' a' w' he hs'
        obtain ⟨ρ2, hs2⟩ := hs'.norm hd.sh key
        rcases Kc_some he with ⟨rfl, y, hy, hA⟩ | ⟨hne, ⟨rfl, _⟩, y, hy, hE⟩
        · exact ⟨n, Nat.lt_succ_self n, y, ρ2, hA, hs2.dec hy⟩
        · have := hk hd.out _ ρ2 a' w' hE (hs2.dec hy)
          cases ho : hd.out with
          | normal => exact absurd ho hne
          | exit id => rw [ho] at this; exact this
          | goto l => rw [ho] at this; exact this
          | fall => exact fun hf => hf.elim
    · obtain ⟨hd, x, hx, h⟩ := head (1000 + l) c s k h
      obtain ⟨ρ1, hs1⟩ := hs.norm hd.sh (1000 + l)
      have hwr : ∀ k' : Kn R, wrapK (1000 + l) k' = Kn.again l k' := fun k' => by
        unfold wrapK
        have : Nat.blt (1000 + l) 1000 = false := by
          cases hb : Nat.blt (1000 + l) 1000 with
          | false => rfl
          | true => rw [Nat.blt_eq] at hb; omega
        rw [this, Nat.add_sub_cancel_left]; rfl
      simp only [hwr] at h
      refine ⟨fun n a w => ∃ x ρ, loopN (fun A x => exec X.pd env ret (mkLp X.pd env ret N tab d) c (hd.sh.enc x) (Kn.again l (Kc hd.sh.dec (hd.sh.norm (1000 + l)) hd.out.is A fun y => k hd.out (hd.sh.enc y)))) n x = some r ∧ Sim X ρ (hd.sh.enc x) a w,
        N, ⟨x, ρ1, h, hs1.dec hx⟩, ?_⟩
      rintro n a w ⟨x, ρ, h, hs⟩
      cases n with
      | zero => cases h
      | succ n =>
        refine (ex2_ok hp henv ih c).1 _ _ _ ρ a w h hs ?_ (fun s' ρ' a' w' h1 h2 => hr s' ρ' a' w' h1 h2)
        intro e s' ρ' a' w' he hs'
        obtain ⟨ρ2, hs2⟩ := hs'.norm hd.sh (1000 + l)
        -- where the round's end leads
        have leave : ∀ e' : Ex, Kc hd.sh.dec (hd.sh.norm (1000 + l)) hd.out.is (loopN (fun A x => exec X.pd env ret (mkLp X.pd env ret N tab d) c (hd.sh.enc x) (Kn.again l (Kc hd.sh.dec (hd.sh.norm (1000 + l)) hd.out.is A fun y => k hd.out (hd.sh.enc y)))) n) (fun y => k hd.out (hd.sh.enc y)) e' s' = some r →
            (e' = .normal ∧ ∃ y, Sim X ρ2 (hd.sh.enc y) a' w' ∧ loopN (fun A x => exec X.pd env ret (mkLp X.pd env ret N tab d) c (hd.sh.enc x) (Kn.again l (Kc hd.sh.dec (hd.sh.norm (1000 + l)) hd.out.is A fun y => k hd.out (hd.sh.enc y)))) n y = some r) ∨ (e' ≠ .normal ∧ QE Q True e' a' w') := by
          intro e' he'
          rcases Kc_some he' with ⟨rfl, y, hy, hA⟩ | ⟨hne, ⟨rfl, _⟩, y, hy, hE⟩
          · exact .inl ⟨rfl, y, hs2.dec hy, hA⟩
          · exact .inr ⟨hne, hk hd.out _ ρ2 a' w' hE (hs2.dec hy)⟩
        cases e with
        | normal =>
          rcases leave .fall he with ⟨h1, _⟩ | ⟨_, h1⟩
          · cases h1
          · exact h1 trivial
        | exit id =>
          rcases leave (.exit id) he with ⟨h1, _⟩ | ⟨_, h1⟩
          · cases h1
          · exact h1
        | goto m =>
          have he' : cond (Nat.beq m l) (Kc hd.sh.dec (hd.sh.norm (1000 + l)) hd.out.is _ _ .normal s') (Kc hd.sh.dec (hd.sh.norm (1000 + l)) hd.out.is _ _ (.goto m) s') = some r := he
          cases hb : Nat.beq m l with
          | true =>
            rw [hb] at he'
            rcases leave .normal he' with ⟨_, y, h1, h2⟩ | ⟨h1, _⟩
            · exact ⟨Nat.beq_true hb, n, Nat.lt_succ_self n, y, ρ2, h2, h1⟩
            · exact absurd rfl h1
          | false =>
            rw [hb] at he'
            simp only [cond_false] at he'
            rcases Kc_some he' with ⟨h1, _⟩ | ⟨_, ⟨_, h1⟩, _⟩
            · cases h1
            · exfalso
              revert h1
              cases hd.out <;> simp [Ex.is]
        | fall => exact fun hf => hf.elim

end Go.Proofs.Ytgimohchocjgcaa.V
