/- What comes back of a call, and zero values: taken in as objects of one's own. -/
import Derived.Test.YtgimohchocjgcaaVT
set_option linter.unusedVariables false
set_option linter.unusedSimpArgs false
namespace Go.Proofs.Ytgimohchocjgcaa.V

variable {X : Ctx} {ρ : Nat → RI} {s : St} {a : Act} {w : World}

/-- Scalars, one by one. -/
def Vals : List C → List Value → Prop
  | [], [] => True
  | c :: l, v :: vs => c.val = some v ∧ Vals l vs
  | _, _ => False

theorem RCs_Vals {l : List C} {vs : List Value} (h : Vals l vs) : RCs X ρ l vs := by
  induction l generalizing vs with
  | nil => cases vs with
    | nil => trivial
    | cons v vs => exact h.elim
  | cons c l ih => cases vs with
    | nil => exact h.elim
    | cons v vs => exact ⟨RC_val h.1, ih h.2⟩

/-- Lists in memory that is new (from block B on), each in a block of its own (gs), and scalars. -/
inductive OwnL (els : List (Nat × El)) (w : World) (B : Nat → Prop) : List C → List Value → List Nat → Prop
  | nil : OwnL els w B [] [] []
  | sc {c : C} {v : Value} {cs : List C} {vs : List Value} {gs : List Nat} : c.val = some v → OwnL els w B cs vs gs → OwnL els w B (c :: cs) (v :: vs) gs
  | nilr {e : El} {cs : List C} {vs : List Value} {gs : List Nat} : OwnL els w B cs vs gs → OwnL els w B (.ro e [] :: cs) (.slice none 0 0 :: vs) gs
  | view {e : El} {l : List e.T} {g cap : Nat} {ty : TypeId} {xs : Array Value} {cs : List C} {vs : List Value} {gs : List Nat} : w.heap[g]? = some (.cells xs ty (0, 0)) → B g → g ∉ gs → l.length ≤ cap → cap ≤ maxLen →
      l.length * e.size ≤ xs.size → Vals (flat e l) (xs.toList.take (l.length * e.size)) → OwnL els w B cs vs gs → OwnL els w B (.rop e l 0 0 :: cs) (.slice (some ⟨g, 0, none⟩) l.length cap :: vs) (g :: gs)
  | row {e : El} {l : List e.T} {g cap : Nat} {ty : TypeId} {xs : Array Value} {cs : List C} {vs : List Value} {gs : List Nat} : elTy e els = some ty → w.heap[g]? = some (.cells xs ty (0, 0)) → B g → g ∉ gs → l.length ≤ cap → cap ≤ maxLen →
      xs.size = cap * e.size → Vals (flat e l) (xs.toList.take (l.length * e.size)) → OwnL els w B cs vs gs → OwnL els w B (.ro e l :: cs) (.slice (some ⟨g, 0, none⟩) l.length cap :: vs) (g :: gs)

theorem men_put {id j : Nat} {x : Ob} (hm : s.men j = false) (hj : j ≠ id) (hx : x.o.men j = false) : St.men ⟨s.tm, putOb id x s.ob⟩ j = false := by
  have hput : ∀ l : List (Nat × Ob), menObs j l = false → menObs j (putOb id x l) = false := fun l => by
    induction l with
    | nil => intro _; simp [putOb, menObs, hx, beq_ne (fun e => hj e.symm)]
    | cons p l ih =>
      obtain ⟨k, y⟩ := p
      intro hml
      simp only [menObs] at hml
      cases h1 : Nat.beq k j with
      | true => rw [h1] at hml; cases hml
      | false =>
        cases h2 : y.o.men j with
        | true => rw [h1, h2] at hml; cases hml
        | false =>
          rw [h1, h2] at hml
          simp only [putOb]
          cases h3 : Nat.beq k id with
          | true => simp only [cond_true, menObs, hx, beq_ne (fun e => hj e.symm)]; exact hml
          | false => simp only [cond_false, menObs, h1, h2]; exact ih hml
  unfold St.men at *
  cases h1 : menVs j s.tm with
  | true => rw [h1] at hm; cases hm
  | false => rw [h1] at hm; simp only [cond_false] at hm ⊢; exact hput _ hm

theorem get_put {id j : Nat} {x y : Ob} (h : St.get ⟨s.tm, putOb id x s.ob⟩ j = some y) : (j = id ∧ y = x) ∨ (j ≠ id ∧ s.get j = some y) := by
  unfold St.get at *
  by_cases e : j = id
  · subst e; rw [look_put_same] at h; exact .inl ⟨rfl, by simpa using h.symm⟩
  · rw [look_put_ne _ _ e] at h; exact .inr ⟨e, h⟩

theorem puts_cons (s : St) (p : Nat × Ob) (l : List (Nat × Ob)) : s.puts (p :: l) = St.puts ⟨s.tm, putOb p.1 p.2 s.ob⟩ l := by
  obtain ⟨i, x⟩ := p; rfl

theorem puts_append (s : St) (l m : List (Nat × Ob)) : s.puts (l ++ m) = (s.puts l).puts m := by
  induction l generalizing s with
  | nil => rfl
  | cons p l ih => rw [List.cons_append, puts_cons, puts_cons, ih]

theorem abC_scal {pd : PD} {n : Nat} {c : C} {v : Value} {d : C} {o : List (Nat × Ob)} {m : Nat} (hv : c.val = some v) (h : abC pd n c = some (d, o, m)) : d = c ∧ o = [] ∧ m = n := by
  cases c <;> simp [C.val] at hv <;> simp [abC] at h <;> obtain ⟨rfl, rfl, rfl⟩ := h <;> exact ⟨rfl, rfl, rfl⟩

theorem ab_ok {B : Nat → Prop} (hB : ∀ g, B g → X.w0.heap.size ≤ g ∨ X.may g) {cs : List C} : ∀ (vs : List Value) (gs : List Nat) (n : Nat) (ds : List C) (obs : List (Nat × Ob)) (m : Nat) (s : St) (ρ : Nat → RI), abCs X.pd n cs = some (ds, obs, m) → OwnL X.pd.els w B cs vs gs →
    Sim X ρ s a w → (∀ id x, s.get id = some x → hasB ρ id x → (ρ id).blk ∉ gs) → (∀ id, n ≤ id → id < m → s.men id = false) →
    ∃ ρ', Sim X ρ' (s.puts obs) a w ∧ RCs X ρ' ds vs ∧ n ≤ m ∧ (∀ id, id < n ∨ m ≤ id → ρ' id = ρ id) ∧ (∀ j, j < n ∨ m ≤ j → s.men j = false → (s.puts obs).men j = false) ∧ (s.puts obs).tm = s.tm := by
  induction cs with
  | nil =>
    intro vs gs n ds obs m s ρ hab hown hs _ _
    simp [abCs] at hab
    obtain ⟨rfl, rfl, rfl⟩ := hab
    cases hown
    exact ⟨ρ, hs, trivial, Nat.le_refl _, fun _ _ => rfl, fun _ _ h => h, rfl⟩
  | cons c cs ih =>
    intro vs gs n ds obs m s ρ hab hown hs hd hm
    simp only [abCs] at hab
    cases hc : abC X.pd n c with
    | none => simp [hc] at hab
    | some p =>
      obtain ⟨d, o1, n1⟩ := p
      simp only [hc] at hab
      cases hr : abCs X.pd n1 cs with
      | none => simp [hr] at hab
      | some q =>
        obtain ⟨r, p2, k⟩ := q
        simp only [hr, Option.some.injEq, Prod.mk.injEq] at hab
        obtain ⟨rfl, rfl, rfl⟩ := hab
        cases hown with
        | sc hv hrest =>
          obtain ⟨rfl, rfl, rfl⟩ := abC_scal hv hc
          obtain ⟨ρ', h1, h2, h3, h4, h5, h6⟩ := ih _ _ _ _ _ _ _ _ hr hrest hs hd hm
          exact ⟨ρ', h1, ⟨RC_val hv, h2⟩, h3, h4, h5, h6⟩
        | @nilr e _ vs' _ hrest =>
          simp only [abC] at hc
          split at hc
          · rename_i ty hty
            simp only [Option.some.injEq, Prod.mk.injEq] at hc
            obtain ⟨rfl, rfl, rfl⟩ := hc
            have hk : n + 1 ≤ k := by
              have := ab_le hr
              exact this
            have hmn := hm n (Nat.le_refl _) (by omega)
            have hs1 := hs.add n ⟨true, 0, ty, .vec e []⟩ ⟨0, .slice none 0 0, e.size, 0⟩ hmn (RO_nil rfl rfl rfl) (fun hb => by
              rcases hb with hb | hb
              · cases hb
              · rw [upd_same] at hb; exact absurd rfl hb)
            obtain ⟨ρ', h1, h2, h3, h4, h5, h6⟩ := ih _ _ _ _ _ _ _ _ hr hrest hs1 (fun id x hx hb => by
              rcases get_put hx with ⟨rfl, rfl⟩ | ⟨hne, hx'⟩
              · rcases hb with hb | hb
                · cases hb
                · rw [upd_same] at hb; exact absurd rfl hb
              · rw [upd_ne hne]
                refine hd id x hx' ?_
                unfold hasB at *; rwa [upd_ne hne] at hb) (fun id h1 h2 => men_put (hm id (by omega) h2) (by omega) rfl)
            refine ⟨ρ', by rw [List.singleton_append, puts_cons]; exact h1, ⟨?_, h2⟩, by omega, fun id hid => by rw [h4 id (by omega), upd_ne (by omega)], fun j hj hjm => by rw [List.singleton_append, puts_cons]; exact h5 j (by omega) (men_put hjm (by omega) rfl), by rw [List.singleton_append, puts_cons]; exact h6⟩
            exact ⟨by rw [h4 n (by omega), upd_same], none, 0, 0, rfl⟩
          · cases hc
        | @view e l g cap ty xs _ vs' gs' hg hBg hgn hcap hmax hxs hvals hrest =>
          simp only [abC] at hc
          simp only [Option.some.injEq, Prod.mk.injEq] at hc
          obtain ⟨rfl, rfl, rfl⟩ := hc
          have hk : n + 1 ≤ k := ab_le hr
          have hmn := hm n (Nat.le_refl _) (by omega)
          have hs1 := hs.add n ⟨false, 0, 0, .vec e l⟩ ⟨g, undef, e.size, l.length⟩ hmn
            ⟨by rw [upd_same]; rfl, by rw [upd_same]; rfl, (fun _ h => absurd rfl h), (fun h => by cases h), .inr ⟨xs, ty, cap, by rw [upd_same]; exact hg, by simp only [O.cells, flat_length]; exact RCs_Vals hvals, by simp only [O.cells, flat_length]; exact hxs, (fun _ => ⟨by simp only [O.cells, flat_length]; exact hxs, fun h => absurd h (show ¬ PIN ≤ 0 by decide)⟩), (fun h => by cases h)⟩⟩
            (fun _ => ⟨fun j y hy hb e => hd j y hy hb (by simp only at e; rw [e]; exact List.mem_cons_self), hB _ hBg⟩)
          obtain ⟨ρ', h1, h2, h3, h4, h5, h6⟩ := ih _ _ _ _ _ _ _ _ hr hrest hs1 (fun id x hx hb => by
            rcases get_put hx with ⟨rfl, rfl⟩ | ⟨hne, hx'⟩
            · rw [upd_same]; exact hgn
            · rw [upd_ne hne]
              intro hin
              refine hd id x hx' ?_ (List.mem_cons_of_mem _ hin)
              unfold hasB at *; rwa [upd_ne hne] at hb) (fun id h1 h2 => men_put (hm id (by omega) h2) (by omega) rfl)
          refine ⟨ρ', by rw [List.singleton_append, puts_cons]; exact h1, ⟨?_, h2⟩, by omega, fun id hid => by rw [h4 id (by omega), upd_ne (by omega)], fun j hj hjm => by rw [List.singleton_append, puts_cons]; exact h5 j (by omega) (men_put hjm (by omega) rfl), by rw [List.singleton_append, puts_cons]; exact h6⟩
          have e1 : ρ' n = ⟨g, undef, e.size, l.length⟩ := by rw [h4 n (by omega), upd_same]
          exact ⟨by rw [e1]; simp, cap, hcap, hmax, .inl (by rw [e1]; simp)⟩
        | @row e l g cap ty xs _ vs' gs' hty hg hBg hgn hcap hmax hxs hvals hrest =>
          simp only [abC] at hc
          rw [hty] at hc
          simp only [Option.some.injEq, Prod.mk.injEq] at hc
          obtain ⟨rfl, rfl, rfl⟩ := hc
          have hk : n + 1 ≤ k := ab_le hr
          have hmn := hm n (Nat.le_refl _) (by omega)
          have hs1 := hs.add n ⟨true, 0, ty, .vec e l⟩ ⟨g, .slice (some ⟨g, 0, none⟩) l.length cap, e.size, l.length⟩ hmn
            ⟨by rw [upd_same]; rfl, by rw [upd_same]; rfl, (fun h => by cases h), fun _ => ⟨⟨e, l, rfl⟩, rfl⟩, .inr ⟨xs, ty, cap, by rw [upd_same]; exact hg, by simp only [O.cells, flat_length]; exact RCs_Vals hvals, by simp only [O.cells, flat_length, hxs]; exact Nat.mul_le_mul_right _ hcap, (fun h => by cases h), fun _ => ⟨rfl, by rw [upd_same]; rfl, hcap, hmax, hxs⟩⟩⟩
            (fun _ => ⟨fun j y hy hb e => hd j y hy hb (by simp only at e; rw [e]; exact List.mem_cons_self), hB _ hBg⟩)
          obtain ⟨ρ', h1, h2, h3, h4, h5, h6⟩ := ih _ _ _ _ _ _ _ _ hr hrest hs1 (fun id x hx hb => by
            rcases get_put hx with ⟨rfl, rfl⟩ | ⟨hne, hx'⟩
            · rw [upd_same]; exact hgn
            · rw [upd_ne hne]
              intro hin
              refine hd id x hx' ?_ (List.mem_cons_of_mem _ hin)
              unfold hasB at *; rwa [upd_ne hne] at hb) (fun id h1 h2 => men_put (hm id (by omega) h2) (by omega) rfl)
          refine ⟨ρ', by rw [List.singleton_append, puts_cons]; exact h1, ⟨?_, h2⟩, by omega, fun id hid => by rw [h4 id (by omega), upd_ne (by omega)], fun j hj hjm => by rw [List.singleton_append, puts_cons]; exact h5 j (by omega) (men_put hjm (by omega) rfl), by rw [List.singleton_append, puts_cons]; exact h6⟩
          exact ⟨by rw [h4 n (by omega), upd_same], _, _, _, rfl⟩
where
  ab_le {n : Nat} {cs : List C} {ds : List C} {obs : List (Nat × Ob)} {m : Nat} (h : abCs X.pd n cs = some (ds, obs, m)) : n ≤ m := by
    induction cs generalizing n ds obs m with
    | nil => simp [abCs] at h; omega
    | cons c cs ih =>
      simp only [abCs] at h
      cases hc : abC X.pd n c with
      | none => simp [hc] at h
      | some p =>
        obtain ⟨d, o1, n1⟩ := p
        simp only [hc] at h
        cases hr : abCs X.pd n1 cs with
        | none => simp [hr] at h
        | some q =>
          obtain ⟨r, p2, k⟩ := q
          simp only [hr, Option.some.injEq, Prod.mk.injEq] at h
          obtain ⟨_, _, rfl⟩ := h
          have := ih hr
          have h2 : n ≤ n1 := by
            unfold abC at hc
            split at hc <;> first | (simp only [Option.some.injEq, Prod.mk.injEq] at hc; omega) | cases hc | skip
            split at hc
            · simp only [Option.some.injEq, Prod.mk.injEq] at hc; omega
            · cases hc
          omega

end Go.Proofs.Ytgimohchocjgcaa.V
