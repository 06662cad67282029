import Derived.Test.YtgimohchocjgcaaVWC4
import Derived.KernelRfl
set_option linter.unusedVariables false
set_option linter.unusedSimpArgs false
namespace Go.Proofs.Ytgimohchocjgcaa.V
section
inductive Plays : PlS -> PlS -> Prop
  | refl (s : PlS) : Plays s s
  | step {s t u : PlS} : Gate s t -> Plays t u -> Plays s u
def PlS.res (s : PlS) : (Int × Int × List Row × List Pr × List Fr × List Fr × List Stp × Unit) := ((s.pb.length : Int), (s.vs.length : Int), s.pb ++ s.rw, s.sm, s.pv, s.vs, s.st, ())
def zhO (V : Int) (r : Row) : Prop := bigR r = false /\ unkR V r = false /\ lowR r = false
theorem zd8 {x : Fr} (h : Sc x) : bg x = false := by unfold bg; unfold Sc at h; rw [decide_eq_true h]; rfl
theorem zc0 {V : Int} {r : Row} (h0 : Sc r.q0) (h1 : Sc r.q1) (h2 : Sc r.q2) (h3 : Sc r.q3) (h4 : Sc r.q4) (h5 : Sc r.q5) (h6 : Sc r.q6) (h7 : Sc r.q7) (w0 : -1 <= r.w0 /\ r.w0 < V) (w1 : -1 <= r.w1 /\ r.w1 < V) (w2 : -1 <= r.w2 /\ r.w2 < V) : zhO V r := by
  refine ⟨?_, ?_, ?_⟩
  . unfold bigR
    rw [zd8 h0, zd8 h1, zd8 h2, zd8 h3, zd8 h4, zd8 h5, zd8 h6, zd8 h7]
    rfl
  . unfold unkR
    rw [zaO (by omega), zaO (by omega), zaO (by omega)]
    rfl
  . unfold lowR
    rw [zar (by omega), zar (by omega), zar (by omega)]
    rfl
theorem zpQ {V v : Int} (hV : 0 <= V) (h : v < V) : -1 <= mxI v (-1) /\ mxI v (-1) < V := by
  unfold mxI
  by_cases h1 : v < -1
  . rw [zbt h1, cond_true]; omega
  . rw [zar h1, cond_false]; omega
theorem zd9 {V : Int} (hV : 0 <= V) {s : Stp} (h : okS V s) : ∀ r ∈ zaP s, zhO V r := by
  obtain ⟨k, v0, v1, v2, q0, q1, q2, q3, q4⟩ := s
  obtain ⟨⟨k1, k2⟩, ⟨a0, a1, a2, a3, a4⟩, b0, b1, b2⟩ := h
  simp only at k1 k2 b0 b1 b2 a0 a1 a2 a3 a4
  have hk : k = 1 \/ k = 2 \/ k = 3 \/ k = 4 \/ k = 5 \/ k = 6 \/ k = 7 := by omega
  have z := zbE
  have o := zpP
  have m : -1 <= (-1 : Int) /\ (-1 : Int) < V := by omega
  intro r hr
  rcases hk with rfl | rfl | rfl | rfl | rfl | rfl | rfl
  . cases (show r ∈ ([] : List Row) from hr)
  . have hr : r ∈ [Row.mk q0 q1 q2 q3 q4 .zero .zero .zero (mxI v0 (-1)) (mxI v1 (-1)) (mxI v2 (-1))] := hr
    rw [List.mem_singleton] at hr; subst hr
    exact zc0 a0 a1 a2 a3 a4 z z z (zpQ hV (b0 (by omega)).1) (zpQ hV (b1 (by omega)).1) (zpQ hV (b2 (by omega)).1)
  . have hr : r ∈ [Row.mk .zero .zero .zero .zero .zero one1 .zero .zero v0 (-1) (-1)] := hr
    rw [List.mem_singleton] at hr; subst hr
    have := b0 (by omega)
    unfold okV at this
    exact zc0 z z z z z o z z (by simp only; omega) m m
  . have hr : r ∈ [Row.mk .zero .zero .zero .zero .zero .zero one1 .zero v0 (-1) v2] := hr
    rw [List.mem_singleton] at hr; subst hr
    have h0 := b0 (by omega)
    have h2 := b2 (by omega)
    unfold okV at h0 h2
    exact zc0 z z z z z z o z (by simp only; omega) m (by simp only; omega)
  . have hr : r ∈ [Row.mk .zero .zero .zero .zero .zero .zero .zero one1 v0 v1 (-1), Row.mk .zero .zero .zero .zero .zero .zero .zero .zero v2 (-1) (-1)] := hr
    have h0 := b0 (by omega)
    have h1 := b1 (by omega)
    have h2 := b2 (by omega)
    unfold okV at h0 h1 h2
    simp only [List.mem_cons, List.not_mem_nil, or_false] at hr
    rcases hr with rfl | rfl
    . exact zc0 z z z z z z z o (by simp only; omega) (by simp only; omega) m
    . exact zc0 z z z z z z z z (by simp only; omega) m m
  . cases (show r ∈ ([] : List Row) from hr)
  . have hr : r ∈ [Row.mk .zero ⟨1, 0, 0, 0⟩ .zero .zero .zero .zero .zero .zero v0 (-1) (-1)] := hr
    rw [List.mem_singleton] at hr; subst hr
    have := b0 (by omega)
    unfold okV at this
    exact zc0 z o z z z z z z (by simp only; omega) m m
theorem zhO.mono {V W : Int} (h : V <= W) {r : Row} (hr : zhO V r) : zhO W r := by
  obtain ⟨a, b, c⟩ := hr
  refine ⟨a, ?_, c⟩
  unfold unkR at b ⊢
  simp only [Bool.or_eq_false_iff] at b
  obtain ⟨⟨b0, b1⟩, b2⟩ := b
  have := of_decide_eq_false b0
  have := of_decide_eq_false b1
  have := of_decide_eq_false b2
  rw [zaO (by omega), zaO (by omega), zaO (by omega)]
  rfl
structure GdI (s : PlS) : Prop where
  pb : ∀ r ∈ s.pb, ∃ x : Nat, x < s.vs.length /\ r = zaz x
  rw : ∀ r ∈ s.rw, zhO (s.vs.length : Int) r
  sm : ∀ p ∈ s.sm, (0 <= p.x /\ p.x < (s.vs.length : Int)) /\ 0 <= p.y /\ p.y < (s.vs.length : Int)
theorem GdI.two {s : PlS} (h : GdI s) (n : Nat) (c : Fr) {t : Stp} (ht : okS ((s.vs.length + 1 : Nat) : Int) t) : GdI (s.two n c t) := by
  have hl : (s.two n c t).vs.length = s.vs.length + 1 := by simp [PlS.two]
  refine ⟨fun r hr => ?_, fun r hr => ?_, fun p hp => ?_⟩
  . obtain ⟨x, hx, e⟩ := h.pb r hr
    exact ⟨x, by omega, e⟩
  . rw [hl]
    simp only [PlS.two, List.mem_append] at hr
    rcases hr with hr | hr
    . exact (h.rw r hr).mono (by omega)
    . exact zd9 (by omega) ht r hr
  . rw [hl]
    have old : ∀ p ∈ s.sm, (0 <= p.x /\ p.x < ((s.vs.length + 1 : Nat) : Int)) /\ 0 <= p.y /\ p.y < ((s.vs.length + 1 : Nat) : Int) := fun p hp => by
      have := h.sm p hp
      omega
    simp only [PlS.two] at hp
    cases h6 : eqI t.kind 6 with
    | false => rw [h6] at hp; exact old p hp
    | true =>
      rw [h6] at hp
      simp only [cond_true, List.mem_append, List.mem_singleton] at hp
      rcases hp with hp | rfl
      . exact old p hp
      . have h6 : t.kind = 6 := of_decide_eq_true h6
        obtain ⟨_, _, b0, b1, _⟩ := ht
        have h0 := b0 (by omega)
        have h1 := b1 (by omega)
        unfold okV at h0 h1
        simp only
        omega
theorem Plays.keep {P : PlS -> Prop} (hP : ∀ g s s', PlI g s -> Gate s s' -> P s -> P s') : ∀ {s s' : PlS}, Plays s s' -> ∀ g, PlI g s -> P s -> P s' := by
  intro s s' h
  induction h with
  | refl s => exact fun _ _ h => h
  | step h1 _ ih => exact fun g hi h => ih (g + 1) (h1.inv hi) (hP g _ _ hi h1 h)
end
section
def badV (kd V v : Int) : Bool := leI V v || (ltI v 0 && !eqI kd 2)
def badQ (s : Stp) : Bool := bg s.q0 || bg s.q1 || bg s.q2 || bg s.q3 || bg s.q4
def badN (V : Int) (s : Stp) : Bool := (ltI 1 s.kind && badV s.kind V s.v0) || ((eqI s.kind 2 || eqI s.kind 5 || eqI s.kind 6) && badV s.kind V s.v1) || ((eqI s.kind 2 || eqI s.kind 4 || eqI s.kind 5) && badV s.kind V s.v2)
def errS (V : Int) (s : Stp) : Int := cond (ltI s.kind 1 || ltI 7 s.kind) 11 (cond (badQ s) 4 (cond (badN V s) 10 0))
theorem zdK {x : Fr} (h : bg x = false) : Sc x := by
  unfold bg at h
  unfold Sc
  simpa using h
theorem zea {kd V v : Int} (h : badV kd V v = false) : okV kd V v := by
  unfold badV at h
  simp only [Bool.or_eq_false_iff, Bool.and_eq_false_iff, Bool.not_eq_false'] at h
  obtain ⟨h1, h2⟩ := h
  have h1 := of_decide_eq_false h1
  refine ⟨by omega, ?_⟩
  rcases h2 with h2 | h2
  . have := of_decide_eq_false h2
    exact .inl (by omega)
  . exact .inr (of_decide_eq_true h2)
theorem ziU {kd V v : Int} (h : okV kd V v) : badV kd V v = false := by
  obtain ⟨h1, h2⟩ := h
  unfold badV
  rw [zaO (by omega)]
  rcases h2 with h2 | h2
  . rw [zar (by omega)]; rfl
  . rw [zbu h2]; cases ltI v 0 <;> rfl
theorem zmB {V : Int} {s : Stp} (h : errS V s = 0) : okS V s := by
  unfold errS at h
  cases h1 : (ltI s.kind 1 || ltI 7 s.kind) with
  | true => rw [h1] at h; simp at h
  | false =>
    rw [h1, cond_false] at h
    cases h2 : badQ s with
    | true => rw [h2] at h; simp at h
    | false =>
      rw [h2, cond_false] at h
      cases h3 : badN V s with
      | true => rw [h3] at h; simp at h
      | false =>
        simp only [Bool.or_eq_false_iff] at h1
        have a1 := of_decide_eq_false h1.1
        have a2 := of_decide_eq_false h1.2
        unfold badQ at h2
        simp only [Bool.or_eq_false_iff] at h2
        obtain ⟨⟨⟨⟨c0, c1⟩, c2⟩, c3⟩, c4⟩ := h2
        unfold badN at h3
        simp only [Bool.or_eq_false_iff] at h3
        obtain ⟨⟨d0, d1⟩, d2⟩ := h3
        refine ⟨by omega, ⟨zdK c0, zdK c1, zdK c2, zdK c3, zdK c4⟩, fun hk => ?_, fun hk => ?_, fun hk => ?_⟩
        . rw [zbt hk, Bool.true_and] at d0; exact zea d0
        . have : (eqI s.kind 2 || eqI s.kind 5 || eqI s.kind 6) = true := by
            rcases hk with hk | hk | hk <;> rw [hk] <;> rfl
          rw [this, Bool.true_and] at d1; exact zea d1
        . have : (eqI s.kind 2 || eqI s.kind 4 || eqI s.kind 5) = true := by
            rcases hk with hk | hk | hk <;> rw [hk] <;> rfl
          rw [this, Bool.true_and] at d2; exact zea d2
theorem or3 {a b c : Int} {k : Int} (h : (eqI k a || eqI k b || eqI k c) = true) : k = a \/ k = b \/ k = c := by
  simp only [Bool.or_eq_true] at h
  rcases h with (h | h) | h
  . exact .inl (of_decide_eq_true h)
  . exact .inr (.inl (of_decide_eq_true h))
  . exact .inr (.inr (of_decide_eq_true h))
theorem zmC {V : Int} {s : Stp} (h : okS V s) : errS V s = 0 := by
  obtain ⟨⟨k1, k2⟩, ⟨a0, a1, a2, a3, a4⟩, b0, b1, b2⟩ := h
  unfold errS badQ
  rw [zar (by omega), zar (by omega), zd8 a0, zd8 a1, zd8 a2, zd8 a3, zd8 a4]
  simp only [Bool.or_self, cond_false]
  have : badN V s = false := by
    unfold badN
    simp only [Bool.or_eq_false_iff]
    refine ⟨⟨?_, ?_⟩, ?_⟩
    . cases hk : ltI 1 s.kind with
      | false => rfl
      | true => rw [Bool.true_and]; exact ziU (b0 (of_decide_eq_true hk))
    . cases hk : (eqI s.kind 2 || eqI s.kind 5 || eqI s.kind 6) with
      | false => rfl
      | true => rw [Bool.true_and]; exact ziU (b1 (or3 hk))
    . cases hk : (eqI s.kind 2 || eqI s.kind 4 || eqI s.kind 5) with
      | false => rfl
      | true => rw [Bool.true_and]; exact ziU (b2 (or3 hk))
  rw [this, cond_false]
theorem zaQ {f : Bool} (kd V v : Int) (X : Option (Int × Unit)) : cond f (cond (leI V v) (some ((10 : Int), ())) (cond (ltI v 0) (cond (!eqI kd 2) (some ((10 : Int), ())) X) X)) X = cond (f && badV kd V v) (some ((10 : Int), ())) X := by
  unfold badV
  cases f <;> cases leI V v <;> cases ltI v 0 <;> cases eqI kd 2 <;> rfl
structure Bd where
  V : Nat
  pb : List Row
  rw : List Row
  sm : List Pr
def Bd.doS (b : Bd) (s : Stp) : Bd × Int × Int :=
  cond (eqI (errS b.V s) 0)
    (cond (ltI 64 ((b.pb.length + b.rw.length + (zaP s).length : Nat) : Int)) (b, 0, 8)
      (cond (eqI s.kind 1) (cond (leI 200 (b.V : Int)) (b, 0, 8) (⟨b.V + 1, b.pb, b.rw, b.sm⟩, (b.V : Int), 0))
        (cond (eqI s.kind 6) (cond (leI 200 (b.sm.length : Int)) (b, 0, 8) (⟨b.V, b.pb, b.rw, b.sm ++ [⟨s.v0, s.v1⟩]⟩, 0, 0))
          (cond (eqI s.kind 7) (cond (leI 8 (b.pb.length : Int)) (b, 0, 8) (⟨b.V, b.pb ++ zaP s, b.rw, b.sm⟩, 0, 0))
            (⟨b.V, b.pb, b.rw ++ zaP s, b.sm⟩, 0, 0)))))
    (b, 0, errS b.V s)
def Bd.out (b : Bd) : (Int × List Row × List Row × List Pr × Unit) := ((b.V : Int), b.pb, b.rw, b.sm, ())
structure BdI (b : Bd) : Prop where
  v : b.V <= 200
  p : b.pb.length <= 8
  r : b.pb.length + b.rw.length <= 64
  m : b.sm.length <= 200
  pb : ∀ r ∈ b.pb, ∃ x : Nat, x < b.V /\ r = zaz x
  rw : ∀ r ∈ b.rw, zhO (b.V : Int) r
  sm : ∀ p ∈ b.sm, (0 <= p.x /\ p.x < (b.V : Int)) /\ 0 <= p.y /\ p.y < (b.V : Int)
def Bd.zero : Bd := ⟨0, [], [], []⟩
theorem zmD (s : Stp) : (zaP s).length <= 2 := by
  unfold zaP
  cases eqI s.kind 2 <;> cases eqI s.kind 3 <;> cases eqI s.kind 4 <;> cases eqI s.kind 5 <;> cases eqI s.kind 7 <;> simp
theorem BdI.doS {b : Bd} (h : BdI b) (s : Stp) : BdI (b.doS s).1 := by
  unfold Bd.doS
  cases h0 : eqI (errS b.V s) 0 with
  | false => exact h
  | true =>
    have hok := zmB (of_decide_eq_true h0)
    cases h1 : ltI 64 ((b.pb.length + b.rw.length + (zaP s).length : Nat) : Int) with
    | true => exact h
    | false =>
      have h1 := of_decide_eq_false h1
      cases h2 : eqI s.kind 1 with
      | true =>
        cases h3 : leI 200 (b.V : Int) with
        | true => exact h
        | false =>
          have h3 := of_decide_eq_false h3
          refine ⟨by show b.V + 1 <= 200; omega, h.p, h.r, h.m, fun r hr => ?_, fun r hr => (h.rw r hr).mono (by show (b.V : Int) <= ((b.V + 1 : Nat) : Int); omega), fun p hp => ?_⟩
          . obtain ⟨x, hx, e⟩ := h.pb r hr
            exact ⟨x, by show x < b.V + 1; omega, e⟩
          . have := h.sm p hp
            show (0 <= p.x /\ p.x < ((b.V + 1 : Nat) : Int)) /\ 0 <= p.y /\ p.y < ((b.V + 1 : Nat) : Int)
            omega
      | false =>
        cases h3 : eqI s.kind 6 with
        | true =>
          have k6 : s.kind = 6 := of_decide_eq_true h3
          cases h4 : leI 200 (b.sm.length : Int) with
          | true => exact h
          | false =>
            have h4 := of_decide_eq_false h4
            refine ⟨h.v, h.p, h.r, by show (b.sm ++ [_]).length <= 200; simp; omega, h.pb, h.rw, fun p hp => ?_⟩
            have hp : p ∈ b.sm ++ [⟨s.v0, s.v1⟩] := hp
            rcases List.mem_append.1 hp with hp | hp
            . exact h.sm p hp
            . rw [List.mem_singleton] at hp
              subst hp
              obtain ⟨_, _, b0, b1, _⟩ := hok
              have g0 := b0 (by omega)
              have g1 := b1 (by omega)
              unfold okV at g0 g1
              show (0 <= s.v0 /\ s.v0 < (b.V : Int)) /\ 0 <= s.v1 /\ s.v1 < (b.V : Int)
              omega
        | false =>
          cases h5 : eqI s.kind 7 with
          | true =>
            have k7 : s.kind = 7 := of_decide_eq_true h5
            cases h6 : leI 8 (b.pb.length : Int) with
            | true => exact h
            | false =>
              have h6 := of_decide_eq_false h6
              have e : zaP s = [zaz s.v0] := by unfold zaP; rw [k7]; rfl
              rw [e] at h1
              simp only [List.length_cons, List.length_nil] at h1
              refine ⟨h.v, by show (b.pb ++ zaP s).length <= 8; rw [e]; simp; omega, by show (b.pb ++ zaP s).length + b.rw.length <= 64; rw [e]; simp; omega, h.m, fun r hr => ?_, h.rw, h.sm⟩
              have hr : r ∈ b.pb ++ zaP s := hr
              rw [e] at hr
              rcases List.mem_append.1 hr with hr | hr
              . exact h.pb r hr
              . rw [List.mem_singleton] at hr
                subst hr
                obtain ⟨_, _, b0, _⟩ := hok
                have g0 := b0 (by omega)
                unfold okV at g0
                refine ⟨s.v0.toNat, by show s.v0.toNat < b.V; omega, ?_⟩
                rw [Int.toNat_of_nonneg (by omega)]
          | false =>
            refine ⟨h.v, h.p, by show b.pb.length + (b.rw ++ zaP s).length <= 64; simp; omega, h.m, h.pb, fun r hr => ?_, h.sm⟩
            have hr : r ∈ b.rw ++ zaP s := hr
            rcases List.mem_append.1 hr with hr | hr
            . exact h.rw r hr
            . exact zd9 (by omega) hok r hr
theorem Bd.doS_ok {b : Bd} {s : Stp} (h : okS (b.V : Int) s) (h1 : s.kind = 7 -> b.pb.length < 8) (h2 : b.pb.length + b.rw.length + (zaP s).length <= 64) (h3 : s.kind = 6 -> b.sm.length < 200) (h4 : s.kind = 1 -> b.V < 200) :
    b.doS s = (⟨cond (eqI s.kind 1) (b.V + 1) b.V, cond (eqI s.kind 7) (b.pb ++ zaP s) b.pb, cond (eqI s.kind 7) b.rw (b.rw ++ zaP s), cond (eqI s.kind 6) (b.sm ++ [⟨s.v0, s.v1⟩]) b.sm⟩, cond (eqI s.kind 1) (b.V : Int) 0, 0) := by
  unfold Bd.doS
  rw [zmC h, zbu rfl, cond_true, zar (by omega), cond_false]
  cases k1 : eqI s.kind 1 with
  | true =>
    have k1 : s.kind = 1 := of_decide_eq_true k1
    have := h4 k1
    have e : zaP s = [] := by unfold zaP; rw [k1]; rfl
    rw [zaO (by omega), k1, e]
    simp only [cond_true, cond_false, List.append_nil]
    rfl
  | false =>
    rw [cond_false, cond_false, cond_false]
    cases k6 : eqI s.kind 6 with
    | true =>
      have k6 : s.kind = 6 := of_decide_eq_true k6
      have := h3 k6
      have e : zaP s = [] := by unfold zaP; rw [k6]; rfl
      rw [zaO (by omega), k6, e]
      simp only [cond_true, cond_false, List.append_nil]
      rfl
    | false =>
      rw [cond_false, cond_false]
      cases k7 : eqI s.kind 7 with
      | true =>
        have k7 : s.kind = 7 := of_decide_eq_true k7
        have := h1 k7
        rw [zaO (by omega)]
        rfl
      | false => rfl
end
section
theorem zrz : q112 2000 = some (true, ()) := by kernel_rfl
theorem zrA (N : Nat) (A : Int -> List Fr -> Int -> Stp -> List Int -> Option (Int × Unit)) (V : Int) (q0 q1 q2 q3 q4 : Fr) (s : Stp) (l : List Int) : zc8 N A V [q0, q1, q2, q3, q4] 0 s l = Option.bind (q79 N q0) fun rr => cond (!rr.1) (some ((4 : Int), ())) (A V [q0, q1, q2, q3, q4] 1 s l) := by kernel_rfl
theorem zrB (N : Nat) (A : Int -> List Fr -> Int -> Stp -> List Int -> Option (Int × Unit)) (V : Int) (q0 q1 q2 q3 q4 : Fr) (s : Stp) (l : List Int) : zc8 N A V [q0, q1, q2, q3, q4] 1 s l = Option.bind (q79 N q1) fun rr => cond (!rr.1) (some ((4 : Int), ())) (A V [q0, q1, q2, q3, q4] 2 s l) := by kernel_rfl
theorem zrC (N : Nat) (A : Int -> List Fr -> Int -> Stp -> List Int -> Option (Int × Unit)) (V : Int) (q0 q1 q2 q3 q4 : Fr) (s : Stp) (l : List Int) : zc8 N A V [q0, q1, q2, q3, q4] 2 s l = Option.bind (q79 N q2) fun rr => cond (!rr.1) (some ((4 : Int), ())) (A V [q0, q1, q2, q3, q4] 3 s l) := by kernel_rfl
theorem zrD (N : Nat) (A : Int -> List Fr -> Int -> Stp -> List Int -> Option (Int × Unit)) (V : Int) (q0 q1 q2 q3 q4 : Fr) (s : Stp) (l : List Int) : zc8 N A V [q0, q1, q2, q3, q4] 3 s l = Option.bind (q79 N q3) fun rr => cond (!rr.1) (some ((4 : Int), ())) (A V [q0, q1, q2, q3, q4] 4 s l) := by kernel_rfl
theorem zrE (N : Nat) (A : Int -> List Fr -> Int -> Stp -> List Int -> Option (Int × Unit)) (V : Int) (q0 q1 q2 q3 q4 : Fr) (s : Stp) (l : List Int) : zc8 N A V [q0, q1, q2, q3, q4] 4 s l = Option.bind (q79 N q4) fun rr => cond (!rr.1) (some ((4 : Int), ())) (A V [q0, q1, q2, q3, q4] 5 s l) := by kernel_rfl
theorem zrF (N : Nat) (A : Int -> List Fr -> Int -> Stp -> List Int -> Option (Int × Unit)) (V : Int) (q0 q1 q2 q3 q4 : Fr) (s : Stp) (l : List Int) : zc8 N A V [q0, q1, q2, q3, q4] 5 s l = zaH N N V (l.length : Int) 0 s l := by kernel_rfl
theorem l192 (N M : Nat) (hN : 10 < N) (V : Int) (q0 q1 q2 q3 q4 : Fr) (s : Stp) (l : List Int) : zci N (M + 6) V [q0, q1, q2, q3, q4] 0 s l = cond (bg q0 || bg q1 || bg q2 || bg q3 || bg q4) (some ((4 : Int), ())) (zaH N N V (l.length : Int) 0 s l) := by
  have key : ∀ (q : Fr) (X : Option (Int × Unit)), (Option.bind (q79 N q) fun rr => cond (!rr.1) (some ((4 : Int), ())) X) = cond (bg q) (some ((4 : Int), ())) X := fun q X => by
    rw [zrn hN]; rfl
  rw [zbn, zrA, key, zbn, zrB, key, zbn, zrC, key, zbn, zrD, key, zbn, zrE, key, zbn, zrF, zgO, zgO, zgO, zgO]
theorem zrG (N : Nat) (A : Int -> Int -> Int -> Stp -> List Int -> Option (Int × Unit)) (V v0 v1 v2 : Int) (q0 q1 q2 q3 q4 : Fr) : zaE N A V 0 0 ⟨1, v0, v1, v2, q0, q1, q2, q3, q4⟩ [] = some ((0 : Int), ()) := by kernel_rfl
theorem zrH (N M : Nat) (V v0 v1 v2 : Int) (q0 q1 q2 q3 q4 : Fr) : zaH N (M + 4) V 0 0 ⟨1, v0, v1, v2, q0, q1, q2, q3, q4⟩ [] = some ((0 : Int), ()) := by
  rw [zan, zrG]
theorem zrI (V v0 v1 v2 : Int) (q0 q1 q2 q3 q4 : Fr) : errS V ⟨1, v0, v1, v2, q0, q1, q2, q3, q4⟩ = cond (bg q0 || bg q1 || bg q2 || bg q3 || bg q4) 4 (cond (false) 10 0) := by
  show cond (bg q0 || bg q1 || bg q2 || bg q3 || bg q4) 4 (cond (badN V ⟨1, v0, v1, v2, q0, q1, q2, q3, q4⟩) 10 0) = _
  rw [show badN V ⟨1, v0, v1, v2, q0, q1, q2, q3, q4⟩ = ((false && badV 1 V v0) || (false && badV 1 V v1) || (false && badV 1 V v2)) from rfl]
  simp only [Bool.true_and, Bool.false_and, Bool.or_false, Bool.false_or]
theorem zrJ (M : Nat) (V v0 v1 v2 : Int) (q0 q1 q2 q3 q4 : Fr) : q192 (M + 20) ⟨1, v0, v1, v2, q0, q1, q2, q3, q4⟩ V = some (errS V ⟨1, v0, v1, v2, q0, q1, q2, q3, q4⟩, ()) := by
  rw [zrI]
  refine (show q192 (M + 20) ⟨1, v0, v1, v2, q0, q1, q2, q3, q4⟩ V = zci (M + 20) (M + 14 + 6) V [q0, q1, q2, q3, q4] 0 ⟨1, v0, v1, v2, q0, q1, q2, q3, q4⟩ [] by kernel_rfl).trans ?_
  rw [l192 (M + 20) (M + 14) (by omega), show zaH (M + 20) (M + 20) V ((([]).length : Nat) : Int) 0 ⟨1, v0, v1, v2, q0, q1, q2, q3, q4⟩ [] = _ from zrH (M + 20) (M + 16) V v0 v1 v2 q0 q1 q2 q3 q4]
  cases (bg q0 || bg q1 || bg q2 || bg q3 || bg q4) <;> rfl
theorem zn0 (N : Nat) (A : Int -> Int -> Int -> Stp -> List Int -> Option (Int × Unit)) (V v0 v1 v2 : Int) (q0 q1 q2 q3 q4 : Fr) : zaE N A V 3 0 ⟨2, v0, v1, v2, q0, q1, q2, q3, q4⟩ [(0 : Int), (1 : Int), (2 : Int)] = cond (true && badV 2 V v0) (some ((10 : Int), ())) (A V 3 1 ⟨2, v0, v1, v2, q0, q1, q2, q3, q4⟩ [(0 : Int), (1 : Int), (2 : Int)]) := by
  rw [← zaQ]; kernel_rfl
theorem zn1 (N : Nat) (A : Int -> Int -> Int -> Stp -> List Int -> Option (Int × Unit)) (V v0 v1 v2 : Int) (q0 q1 q2 q3 q4 : Fr) : zaE N A V 3 1 ⟨2, v0, v1, v2, q0, q1, q2, q3, q4⟩ [(0 : Int), (1 : Int), (2 : Int)] = cond (true && badV 2 V v1) (some ((10 : Int), ())) (A V 3 2 ⟨2, v0, v1, v2, q0, q1, q2, q3, q4⟩ [(0 : Int), (1 : Int), (2 : Int)]) := by
  rw [← zaQ]; kernel_rfl
theorem zn2 (N : Nat) (A : Int -> Int -> Int -> Stp -> List Int -> Option (Int × Unit)) (V v0 v1 v2 : Int) (q0 q1 q2 q3 q4 : Fr) : zaE N A V 3 2 ⟨2, v0, v1, v2, q0, q1, q2, q3, q4⟩ [(0 : Int), (1 : Int), (2 : Int)] = cond (true && badV 2 V v2) (some ((10 : Int), ())) (A V 3 3 ⟨2, v0, v1, v2, q0, q1, q2, q3, q4⟩ [(0 : Int), (1 : Int), (2 : Int)]) := by
  rw [← zaQ]; kernel_rfl
theorem zrK (N : Nat) (A : Int -> Int -> Int -> Stp -> List Int -> Option (Int × Unit)) (V v0 v1 v2 : Int) (q0 q1 q2 q3 q4 : Fr) : zaE N A V 3 3 ⟨2, v0, v1, v2, q0, q1, q2, q3, q4⟩ [(0 : Int), (1 : Int), (2 : Int)] = some ((0 : Int), ()) := by kernel_rfl
theorem zrL (N M : Nat) (V v0 v1 v2 : Int) (q0 q1 q2 q3 q4 : Fr) : zaH N (M + 4) V 3 0 ⟨2, v0, v1, v2, q0, q1, q2, q3, q4⟩ [(0 : Int), (1 : Int), (2 : Int)] = cond (badV 2 V v0) (some ((10 : Int), ())) (cond (badV 2 V v1) (some ((10 : Int), ())) (cond (badV 2 V v2) (some ((10 : Int), ())) (some ((0 : Int), ())))) := by
  rw [zan, zn0, Bool.true_and, zan, zn1, Bool.true_and, zan, zn2, Bool.true_and, zan, zrK]
theorem zrM (V v0 v1 v2 : Int) (q0 q1 q2 q3 q4 : Fr) : errS V ⟨2, v0, v1, v2, q0, q1, q2, q3, q4⟩ = cond (bg q0 || bg q1 || bg q2 || bg q3 || bg q4) 4 (cond (badV 2 V v0 || badV 2 V v1 || badV 2 V v2) 10 0) := by
  show cond (bg q0 || bg q1 || bg q2 || bg q3 || bg q4) 4 (cond (badN V ⟨2, v0, v1, v2, q0, q1, q2, q3, q4⟩) 10 0) = _
  rw [show badN V ⟨2, v0, v1, v2, q0, q1, q2, q3, q4⟩ = ((true && badV 2 V v0) || (true && badV 2 V v1) || (true && badV 2 V v2)) from rfl]
  simp only [Bool.true_and, Bool.false_and, Bool.or_false, Bool.false_or]
theorem zrN (M : Nat) (V v0 v1 v2 : Int) (q0 q1 q2 q3 q4 : Fr) : q192 (M + 20) ⟨2, v0, v1, v2, q0, q1, q2, q3, q4⟩ V = some (errS V ⟨2, v0, v1, v2, q0, q1, q2, q3, q4⟩, ()) := by
  rw [zrM]
  refine (show q192 (M + 20) ⟨2, v0, v1, v2, q0, q1, q2, q3, q4⟩ V = zci (M + 20) (M + 14 + 6) V [q0, q1, q2, q3, q4] 0 ⟨2, v0, v1, v2, q0, q1, q2, q3, q4⟩ [(0 : Int), (1 : Int), (2 : Int)] by kernel_rfl).trans ?_
  rw [l192 (M + 20) (M + 14) (by omega), show zaH (M + 20) (M + 20) V ((([(0 : Int), (1 : Int), (2 : Int)]).length : Nat) : Int) 0 ⟨2, v0, v1, v2, q0, q1, q2, q3, q4⟩ [(0 : Int), (1 : Int), (2 : Int)] = _ from zrL (M + 20) (M + 16) V v0 v1 v2 q0 q1 q2 q3 q4]
  cases (bg q0 || bg q1 || bg q2 || bg q3 || bg q4) <;> cases badV 2 V v0 <;> cases badV 2 V v1 <;> cases badV 2 V v2 <;> rfl
theorem zn3 (N : Nat) (A : Int -> Int -> Int -> Stp -> List Int -> Option (Int × Unit)) (V v0 v1 v2 : Int) (q0 q1 q2 q3 q4 : Fr) : zaE N A V 1 0 ⟨3, v0, v1, v2, q0, q1, q2, q3, q4⟩ [(0 : Int)] = cond (true && badV 3 V v0) (some ((10 : Int), ())) (A V 1 1 ⟨3, v0, v1, v2, q0, q1, q2, q3, q4⟩ [(0 : Int)]) := by
  rw [← zaQ]; kernel_rfl
theorem zrO (N : Nat) (A : Int -> Int -> Int -> Stp -> List Int -> Option (Int × Unit)) (V v0 v1 v2 : Int) (q0 q1 q2 q3 q4 : Fr) : zaE N A V 1 1 ⟨3, v0, v1, v2, q0, q1, q2, q3, q4⟩ [(0 : Int)] = some ((0 : Int), ()) := by kernel_rfl
theorem zrP (N M : Nat) (V v0 v1 v2 : Int) (q0 q1 q2 q3 q4 : Fr) : zaH N (M + 4) V 1 0 ⟨3, v0, v1, v2, q0, q1, q2, q3, q4⟩ [(0 : Int)] = cond (badV 3 V v0) (some ((10 : Int), ())) (some ((0 : Int), ())) := by
  rw [zan, zn3, Bool.true_and, zan, zrO]
theorem zrQ (V v0 v1 v2 : Int) (q0 q1 q2 q3 q4 : Fr) : errS V ⟨3, v0, v1, v2, q0, q1, q2, q3, q4⟩ = cond (bg q0 || bg q1 || bg q2 || bg q3 || bg q4) 4 (cond (badV 3 V v0) 10 0) := by
  show cond (bg q0 || bg q1 || bg q2 || bg q3 || bg q4) 4 (cond (badN V ⟨3, v0, v1, v2, q0, q1, q2, q3, q4⟩) 10 0) = _
  rw [show badN V ⟨3, v0, v1, v2, q0, q1, q2, q3, q4⟩ = ((true && badV 3 V v0) || (false && badV 3 V v1) || (false && badV 3 V v2)) from rfl]
  simp only [Bool.true_and, Bool.false_and, Bool.or_false, Bool.false_or]
theorem zrR (M : Nat) (V v0 v1 v2 : Int) (q0 q1 q2 q3 q4 : Fr) : q192 (M + 20) ⟨3, v0, v1, v2, q0, q1, q2, q3, q4⟩ V = some (errS V ⟨3, v0, v1, v2, q0, q1, q2, q3, q4⟩, ()) := by
  rw [zrQ]
  refine (show q192 (M + 20) ⟨3, v0, v1, v2, q0, q1, q2, q3, q4⟩ V = zci (M + 20) (M + 14 + 6) V [q0, q1, q2, q3, q4] 0 ⟨3, v0, v1, v2, q0, q1, q2, q3, q4⟩ [(0 : Int)] by kernel_rfl).trans ?_
  rw [l192 (M + 20) (M + 14) (by omega), show zaH (M + 20) (M + 20) V ((([(0 : Int)]).length : Nat) : Int) 0 ⟨3, v0, v1, v2, q0, q1, q2, q3, q4⟩ [(0 : Int)] = _ from zrP (M + 20) (M + 16) V v0 v1 v2 q0 q1 q2 q3 q4]
  cases (bg q0 || bg q1 || bg q2 || bg q3 || bg q4) <;> cases badV 3 V v0 <;> rfl
theorem zn4 (N : Nat) (A : Int -> Int -> Int -> Stp -> List Int -> Option (Int × Unit)) (V v0 v1 v2 : Int) (q0 q1 q2 q3 q4 : Fr) : zaE N A V 2 0 ⟨4, v0, v1, v2, q0, q1, q2, q3, q4⟩ [(0 : Int), (2 : Int)] = cond (true && badV 4 V v0) (some ((10 : Int), ())) (A V 2 1 ⟨4, v0, v1, v2, q0, q1, q2, q3, q4⟩ [(0 : Int), (2 : Int)]) := by
  rw [← zaQ]; kernel_rfl
theorem zn5 (N : Nat) (A : Int -> Int -> Int -> Stp -> List Int -> Option (Int × Unit)) (V v0 v1 v2 : Int) (q0 q1 q2 q3 q4 : Fr) : zaE N A V 2 1 ⟨4, v0, v1, v2, q0, q1, q2, q3, q4⟩ [(0 : Int), (2 : Int)] = cond (true && badV 4 V v2) (some ((10 : Int), ())) (A V 2 2 ⟨4, v0, v1, v2, q0, q1, q2, q3, q4⟩ [(0 : Int), (2 : Int)]) := by
  rw [← zaQ]; kernel_rfl
theorem zrS (N : Nat) (A : Int -> Int -> Int -> Stp -> List Int -> Option (Int × Unit)) (V v0 v1 v2 : Int) (q0 q1 q2 q3 q4 : Fr) : zaE N A V 2 2 ⟨4, v0, v1, v2, q0, q1, q2, q3, q4⟩ [(0 : Int), (2 : Int)] = some ((0 : Int), ()) := by kernel_rfl
theorem zrT (N M : Nat) (V v0 v1 v2 : Int) (q0 q1 q2 q3 q4 : Fr) : zaH N (M + 4) V 2 0 ⟨4, v0, v1, v2, q0, q1, q2, q3, q4⟩ [(0 : Int), (2 : Int)] = cond (badV 4 V v0) (some ((10 : Int), ())) (cond (badV 4 V v2) (some ((10 : Int), ())) (some ((0 : Int), ()))) := by
  rw [zan, zn4, Bool.true_and, zan, zn5, Bool.true_and, zan, zrS]
theorem zrU (V v0 v1 v2 : Int) (q0 q1 q2 q3 q4 : Fr) : errS V ⟨4, v0, v1, v2, q0, q1, q2, q3, q4⟩ = cond (bg q0 || bg q1 || bg q2 || bg q3 || bg q4) 4 (cond (badV 4 V v0 || badV 4 V v2) 10 0) := by
  show cond (bg q0 || bg q1 || bg q2 || bg q3 || bg q4) 4 (cond (badN V ⟨4, v0, v1, v2, q0, q1, q2, q3, q4⟩) 10 0) = _
  rw [show badN V ⟨4, v0, v1, v2, q0, q1, q2, q3, q4⟩ = ((true && badV 4 V v0) || (false && badV 4 V v1) || (true && badV 4 V v2)) from rfl]
  simp only [Bool.true_and, Bool.false_and, Bool.or_false, Bool.false_or]
theorem zrV (M : Nat) (V v0 v1 v2 : Int) (q0 q1 q2 q3 q4 : Fr) : q192 (M + 20) ⟨4, v0, v1, v2, q0, q1, q2, q3, q4⟩ V = some (errS V ⟨4, v0, v1, v2, q0, q1, q2, q3, q4⟩, ()) := by
  rw [zrU]
  refine (show q192 (M + 20) ⟨4, v0, v1, v2, q0, q1, q2, q3, q4⟩ V = zci (M + 20) (M + 14 + 6) V [q0, q1, q2, q3, q4] 0 ⟨4, v0, v1, v2, q0, q1, q2, q3, q4⟩ [(0 : Int), (2 : Int)] by kernel_rfl).trans ?_
  rw [l192 (M + 20) (M + 14) (by omega), show zaH (M + 20) (M + 20) V ((([(0 : Int), (2 : Int)]).length : Nat) : Int) 0 ⟨4, v0, v1, v2, q0, q1, q2, q3, q4⟩ [(0 : Int), (2 : Int)] = _ from zrT (M + 20) (M + 16) V v0 v1 v2 q0 q1 q2 q3 q4]
  cases (bg q0 || bg q1 || bg q2 || bg q3 || bg q4) <;> cases badV 4 V v0 <;> cases badV 4 V v2 <;> rfl
theorem zn6 (N : Nat) (A : Int -> Int -> Int -> Stp -> List Int -> Option (Int × Unit)) (V v0 v1 v2 : Int) (q0 q1 q2 q3 q4 : Fr) : zaE N A V 3 0 ⟨5, v0, v1, v2, q0, q1, q2, q3, q4⟩ [(0 : Int), (1 : Int), (2 : Int)] = cond (true && badV 5 V v0) (some ((10 : Int), ())) (A V 3 1 ⟨5, v0, v1, v2, q0, q1, q2, q3, q4⟩ [(0 : Int), (1 : Int), (2 : Int)]) := by
  rw [← zaQ]; kernel_rfl
theorem zn7 (N : Nat) (A : Int -> Int -> Int -> Stp -> List Int -> Option (Int × Unit)) (V v0 v1 v2 : Int) (q0 q1 q2 q3 q4 : Fr) : zaE N A V 3 1 ⟨5, v0, v1, v2, q0, q1, q2, q3, q4⟩ [(0 : Int), (1 : Int), (2 : Int)] = cond (true && badV 5 V v1) (some ((10 : Int), ())) (A V 3 2 ⟨5, v0, v1, v2, q0, q1, q2, q3, q4⟩ [(0 : Int), (1 : Int), (2 : Int)]) := by
  rw [← zaQ]; kernel_rfl
theorem zn8 (N : Nat) (A : Int -> Int -> Int -> Stp -> List Int -> Option (Int × Unit)) (V v0 v1 v2 : Int) (q0 q1 q2 q3 q4 : Fr) : zaE N A V 3 2 ⟨5, v0, v1, v2, q0, q1, q2, q3, q4⟩ [(0 : Int), (1 : Int), (2 : Int)] = cond (true && badV 5 V v2) (some ((10 : Int), ())) (A V 3 3 ⟨5, v0, v1, v2, q0, q1, q2, q3, q4⟩ [(0 : Int), (1 : Int), (2 : Int)]) := by
  rw [← zaQ]; kernel_rfl
theorem zrW (N : Nat) (A : Int -> Int -> Int -> Stp -> List Int -> Option (Int × Unit)) (V v0 v1 v2 : Int) (q0 q1 q2 q3 q4 : Fr) : zaE N A V 3 3 ⟨5, v0, v1, v2, q0, q1, q2, q3, q4⟩ [(0 : Int), (1 : Int), (2 : Int)] = some ((0 : Int), ()) := by kernel_rfl
theorem zrX (N M : Nat) (V v0 v1 v2 : Int) (q0 q1 q2 q3 q4 : Fr) : zaH N (M + 4) V 3 0 ⟨5, v0, v1, v2, q0, q1, q2, q3, q4⟩ [(0 : Int), (1 : Int), (2 : Int)] = cond (badV 5 V v0) (some ((10 : Int), ())) (cond (badV 5 V v1) (some ((10 : Int), ())) (cond (badV 5 V v2) (some ((10 : Int), ())) (some ((0 : Int), ())))) := by
  rw [zan, zn6, Bool.true_and, zan, zn7, Bool.true_and, zan, zn8, Bool.true_and, zan, zrW]
theorem zrY (V v0 v1 v2 : Int) (q0 q1 q2 q3 q4 : Fr) : errS V ⟨5, v0, v1, v2, q0, q1, q2, q3, q4⟩ = cond (bg q0 || bg q1 || bg q2 || bg q3 || bg q4) 4 (cond (badV 5 V v0 || badV 5 V v1 || badV 5 V v2) 10 0) := by
  show cond (bg q0 || bg q1 || bg q2 || bg q3 || bg q4) 4 (cond (badN V ⟨5, v0, v1, v2, q0, q1, q2, q3, q4⟩) 10 0) = _
  rw [show badN V ⟨5, v0, v1, v2, q0, q1, q2, q3, q4⟩ = ((true && badV 5 V v0) || (true && badV 5 V v1) || (true && badV 5 V v2)) from rfl]
  simp only [Bool.true_and, Bool.false_and, Bool.or_false, Bool.false_or]
theorem zrZ (M : Nat) (V v0 v1 v2 : Int) (q0 q1 q2 q3 q4 : Fr) : q192 (M + 20) ⟨5, v0, v1, v2, q0, q1, q2, q3, q4⟩ V = some (errS V ⟨5, v0, v1, v2, q0, q1, q2, q3, q4⟩, ()) := by
  rw [zrY]
  refine (show q192 (M + 20) ⟨5, v0, v1, v2, q0, q1, q2, q3, q4⟩ V = zci (M + 20) (M + 14 + 6) V [q0, q1, q2, q3, q4] 0 ⟨5, v0, v1, v2, q0, q1, q2, q3, q4⟩ [(0 : Int), (1 : Int), (2 : Int)] by kernel_rfl).trans ?_
  rw [l192 (M + 20) (M + 14) (by omega), show zaH (M + 20) (M + 20) V ((([(0 : Int), (1 : Int), (2 : Int)]).length : Nat) : Int) 0 ⟨5, v0, v1, v2, q0, q1, q2, q3, q4⟩ [(0 : Int), (1 : Int), (2 : Int)] = _ from zrX (M + 20) (M + 16) V v0 v1 v2 q0 q1 q2 q3 q4]
  cases (bg q0 || bg q1 || bg q2 || bg q3 || bg q4) <;> cases badV 5 V v0 <;> cases badV 5 V v1 <;> cases badV 5 V v2 <;> rfl
theorem zn9 (N : Nat) (A : Int -> Int -> Int -> Stp -> List Int -> Option (Int × Unit)) (V v0 v1 v2 : Int) (q0 q1 q2 q3 q4 : Fr) : zaE N A V 2 0 ⟨6, v0, v1, v2, q0, q1, q2, q3, q4⟩ [(0 : Int), (1 : Int)] = cond (true && badV 6 V v0) (some ((10 : Int), ())) (A V 2 1 ⟨6, v0, v1, v2, q0, q1, q2, q3, q4⟩ [(0 : Int), (1 : Int)]) := by
  rw [← zaQ]; kernel_rfl
theorem zoa (N : Nat) (A : Int -> Int -> Int -> Stp -> List Int -> Option (Int × Unit)) (V v0 v1 v2 : Int) (q0 q1 q2 q3 q4 : Fr) : zaE N A V 2 1 ⟨6, v0, v1, v2, q0, q1, q2, q3, q4⟩ [(0 : Int), (1 : Int)] = cond (true && badV 6 V v1) (some ((10 : Int), ())) (A V 2 2 ⟨6, v0, v1, v2, q0, q1, q2, q3, q4⟩ [(0 : Int), (1 : Int)]) := by
  rw [← zaQ]; kernel_rfl
theorem zr0 (N : Nat) (A : Int -> Int -> Int -> Stp -> List Int -> Option (Int × Unit)) (V v0 v1 v2 : Int) (q0 q1 q2 q3 q4 : Fr) : zaE N A V 2 2 ⟨6, v0, v1, v2, q0, q1, q2, q3, q4⟩ [(0 : Int), (1 : Int)] = some ((0 : Int), ()) := by kernel_rfl
theorem zr1 (N M : Nat) (V v0 v1 v2 : Int) (q0 q1 q2 q3 q4 : Fr) : zaH N (M + 4) V 2 0 ⟨6, v0, v1, v2, q0, q1, q2, q3, q4⟩ [(0 : Int), (1 : Int)] = cond (badV 6 V v0) (some ((10 : Int), ())) (cond (badV 6 V v1) (some ((10 : Int), ())) (some ((0 : Int), ()))) := by
  rw [zan, zn9, Bool.true_and, zan, zoa, Bool.true_and, zan, zr0]
theorem zr2 (V v0 v1 v2 : Int) (q0 q1 q2 q3 q4 : Fr) : errS V ⟨6, v0, v1, v2, q0, q1, q2, q3, q4⟩ = cond (bg q0 || bg q1 || bg q2 || bg q3 || bg q4) 4 (cond (badV 6 V v0 || badV 6 V v1) 10 0) := by
  show cond (bg q0 || bg q1 || bg q2 || bg q3 || bg q4) 4 (cond (badN V ⟨6, v0, v1, v2, q0, q1, q2, q3, q4⟩) 10 0) = _
  rw [show badN V ⟨6, v0, v1, v2, q0, q1, q2, q3, q4⟩ = ((true && badV 6 V v0) || (true && badV 6 V v1) || (false && badV 6 V v2)) from rfl]
  simp only [Bool.true_and, Bool.false_and, Bool.or_false, Bool.false_or]
theorem zr3 (M : Nat) (V v0 v1 v2 : Int) (q0 q1 q2 q3 q4 : Fr) : q192 (M + 20) ⟨6, v0, v1, v2, q0, q1, q2, q3, q4⟩ V = some (errS V ⟨6, v0, v1, v2, q0, q1, q2, q3, q4⟩, ()) := by
  rw [zr2]
  refine (show q192 (M + 20) ⟨6, v0, v1, v2, q0, q1, q2, q3, q4⟩ V = zci (M + 20) (M + 14 + 6) V [q0, q1, q2, q3, q4] 0 ⟨6, v0, v1, v2, q0, q1, q2, q3, q4⟩ [(0 : Int), (1 : Int)] by kernel_rfl).trans ?_
  rw [l192 (M + 20) (M + 14) (by omega), show zaH (M + 20) (M + 20) V ((([(0 : Int), (1 : Int)]).length : Nat) : Int) 0 ⟨6, v0, v1, v2, q0, q1, q2, q3, q4⟩ [(0 : Int), (1 : Int)] = _ from zr1 (M + 20) (M + 16) V v0 v1 v2 q0 q1 q2 q3 q4]
  cases (bg q0 || bg q1 || bg q2 || bg q3 || bg q4) <;> cases badV 6 V v0 <;> cases badV 6 V v1 <;> rfl
theorem zob (N : Nat) (A : Int -> Int -> Int -> Stp -> List Int -> Option (Int × Unit)) (V v0 v1 v2 : Int) (q0 q1 q2 q3 q4 : Fr) : zaE N A V 1 0 ⟨7, v0, v1, v2, q0, q1, q2, q3, q4⟩ [(0 : Int)] = cond (true && badV 7 V v0) (some ((10 : Int), ())) (A V 1 1 ⟨7, v0, v1, v2, q0, q1, q2, q3, q4⟩ [(0 : Int)]) := by
  rw [← zaQ]; kernel_rfl
theorem zr4 (N : Nat) (A : Int -> Int -> Int -> Stp -> List Int -> Option (Int × Unit)) (V v0 v1 v2 : Int) (q0 q1 q2 q3 q4 : Fr) : zaE N A V 1 1 ⟨7, v0, v1, v2, q0, q1, q2, q3, q4⟩ [(0 : Int)] = some ((0 : Int), ()) := by kernel_rfl
theorem zr5 (N M : Nat) (V v0 v1 v2 : Int) (q0 q1 q2 q3 q4 : Fr) : zaH N (M + 4) V 1 0 ⟨7, v0, v1, v2, q0, q1, q2, q3, q4⟩ [(0 : Int)] = cond (badV 7 V v0) (some ((10 : Int), ())) (some ((0 : Int), ())) := by
  rw [zan, zob, Bool.true_and, zan, zr4]
theorem zr6 (V v0 v1 v2 : Int) (q0 q1 q2 q3 q4 : Fr) : errS V ⟨7, v0, v1, v2, q0, q1, q2, q3, q4⟩ = cond (bg q0 || bg q1 || bg q2 || bg q3 || bg q4) 4 (cond (badV 7 V v0) 10 0) := by
  show cond (bg q0 || bg q1 || bg q2 || bg q3 || bg q4) 4 (cond (badN V ⟨7, v0, v1, v2, q0, q1, q2, q3, q4⟩) 10 0) = _
  rw [show badN V ⟨7, v0, v1, v2, q0, q1, q2, q3, q4⟩ = ((true && badV 7 V v0) || (false && badV 7 V v1) || (false && badV 7 V v2)) from rfl]
  simp only [Bool.true_and, Bool.false_and, Bool.or_false, Bool.false_or]
theorem zr7 (M : Nat) (V v0 v1 v2 : Int) (q0 q1 q2 q3 q4 : Fr) : q192 (M + 20) ⟨7, v0, v1, v2, q0, q1, q2, q3, q4⟩ V = some (errS V ⟨7, v0, v1, v2, q0, q1, q2, q3, q4⟩, ()) := by
  rw [zr6]
  refine (show q192 (M + 20) ⟨7, v0, v1, v2, q0, q1, q2, q3, q4⟩ V = zci (M + 20) (M + 14 + 6) V [q0, q1, q2, q3, q4] 0 ⟨7, v0, v1, v2, q0, q1, q2, q3, q4⟩ [(0 : Int)] by kernel_rfl).trans ?_
  rw [l192 (M + 20) (M + 14) (by omega), show zaH (M + 20) (M + 20) V ((([(0 : Int)]).length : Nat) : Int) 0 ⟨7, v0, v1, v2, q0, q1, q2, q3, q4⟩ [(0 : Int)] = _ from zr5 (M + 20) (M + 16) V v0 v1 v2 q0 q1 q2 q3 q4]
  cases (bg q0 || bg q1 || bg q2 || bg q3 || bg q4) <;> cases badV 7 V v0 <;> rfl
theorem zoc (N : Nat) {k : Int} (h : k < 1 \/ 7 < k) : q217 N k = some ([], false, ()) := by
  unfold q217
  rw [zbB (show ¬ k = 1 by omega), zbB (show ¬ k = 2 by omega), zbB (show ¬ k = 3 by omega), zbB (show ¬ k = 4 by omega), zbB (show ¬ k = 5 by omega), zbB (show ¬ k = 6 by omega), zbB (show ¬ k = 7 by omega)]
  rfl
theorem zpR {N : Nat} (hN : 100 <= N) (V : Int) (s : Stp) : q192 N s V = some (errS V s, ()) := by
  obtain ⟨M, rfl⟩ : ∃ M, N = M + 20 := ⟨N - 20, by omega⟩
  by_cases hk : s.kind < 1 \/ 7 < s.kind
  . unfold q192 errS
    rw [zoc _ hk]
    simp only [bsm]
    rcases hk with hk | hk
    . rw [zbt hk]; rfl
    . rw [zbt hk, Bool.or_true]; rfl
  . obtain ⟨k, v0, v1, v2, q0, q1, q2, q3, q4⟩ := s
    simp only at hk
    have hk : k = 1 \/ k = 2 \/ k = 3 \/ k = 4 \/ k = 5 \/ k = 6 \/ k = 7 := by omega
    rcases hk with rfl | rfl | rfl | rfl | rfl | rfl | rfl
    . exact zrJ ..
    . exact zrN ..
    . exact zrR ..
    . exact zrV ..
    . exact zrZ ..
    . exact zr3 ..
    . exact zr7 ..
theorem zr8 (M : Nat) (v0 v1 v2 : Int) (q0 q1 q2 q3 q4 : Fr) : q108 (M + 8) ⟨1, v0, v1, v2, q0, q1, q2, q3, q4⟩ = some (zaP ⟨1, v0, v1, v2, q0, q1, q2, q3, q4⟩, 0, ()) := by kernel_rfl
theorem zr9 (M : Nat) (v0 v1 v2 : Int) (q0 q1 q2 q3 q4 : Fr) : q108 (M + 8) ⟨2, v0, v1, v2, q0, q1, q2, q3, q4⟩ = some (zaP ⟨2, v0, v1, v2, q0, q1, q2, q3, q4⟩, 0, ()) := by kernel_rfl
theorem zsa (M : Nat) (v0 v1 v2 : Int) (q0 q1 q2 q3 q4 : Fr) : q108 (M + 8) ⟨3, v0, v1, v2, q0, q1, q2, q3, q4⟩ = some (zaP ⟨3, v0, v1, v2, q0, q1, q2, q3, q4⟩, 0, ()) := by kernel_rfl
theorem zsb (M : Nat) (v0 v1 v2 : Int) (q0 q1 q2 q3 q4 : Fr) : q108 (M + 8) ⟨4, v0, v1, v2, q0, q1, q2, q3, q4⟩ = some (zaP ⟨4, v0, v1, v2, q0, q1, q2, q3, q4⟩, 0, ()) := by kernel_rfl
theorem zsc (M : Nat) (v0 v1 v2 : Int) (q0 q1 q2 q3 q4 : Fr) : q108 (M + 8) ⟨5, v0, v1, v2, q0, q1, q2, q3, q4⟩ = some (zaP ⟨5, v0, v1, v2, q0, q1, q2, q3, q4⟩, 0, ()) := by kernel_rfl
theorem zsd (M : Nat) (v0 v1 v2 : Int) (q0 q1 q2 q3 q4 : Fr) : q108 (M + 8) ⟨6, v0, v1, v2, q0, q1, q2, q3, q4⟩ = some (zaP ⟨6, v0, v1, v2, q0, q1, q2, q3, q4⟩, 0, ()) := by kernel_rfl
theorem zse (M : Nat) (v0 v1 v2 : Int) (q0 q1 q2 q3 q4 : Fr) : q108 (M + 8) ⟨7, v0, v1, v2, q0, q1, q2, q3, q4⟩ = some (zaP ⟨7, v0, v1, v2, q0, q1, q2, q3, q4⟩, 0, ()) := by kernel_rfl
theorem zpS {N : Nat} (hN : 100 <= N) {s : Stp} (h : 1 <= s.kind /\ s.kind <= 7) : q108 N s = some (zaP s, 0, ()) := by
  obtain ⟨M, rfl⟩ : ∃ M, N = M + 8 := ⟨N - 8, by omega⟩
  obtain ⟨k, v0, v1, v2, q0, q1, q2, q3, q4⟩ := s
  simp only at h
  have hk : k = 1 \/ k = 2 \/ k = 3 \/ k = 4 \/ k = 5 \/ k = 6 \/ k = 7 := by omega
  rcases hk with rfl | rfl | rfl | rfl | rfl | rfl | rfl
  . exact zr8 ..
  . exact zr9 ..
  . exact zsa ..
  . exact zsb ..
  . exact zsc ..
  . exact zsd ..
  . exact zse ..
theorem zmE {n : Nat} {m : Int} (h : (n : Int) <= m) : eqI (n : Int) m = leI m (n : Int) := by
  by_cases e : (n : Int) = m
  . rw [zbu e, zex (by omega)]
  . rw [zbB e, zaO (by omega)]
theorem zjz {N : Nat} (hN : 100 <= N) {b : Bd} (h : BdI b) (s : Stp) : q114 N (b.V : Int) b.pb b.rw b.sm s = some ((b.doS s).1.out, (b.doS s).2.1, (b.doS s).2.2, ()) := by
  have i1 := h.v; have i2 := h.p; have i3 := h.r; have i4 := h.m
  have i5 := zmD s
  unfold q114 Bd.doS
  rw [zpR hN, cond_false]
  simp only [bsm]
  cases h0 : eqI (errS b.V s) 0 with
  | false => rfl
  | true =>
    have hok := zmB (of_decide_eq_true h0)
    rw [Bool.not_true, cond_false, zpS hN hok.1]
    simp only [bsm]
    have e1 : wr ((b.pb.length : Int) + (b.rw.length : Int)) = ((b.pb.length + b.rw.length : Nat) : Int) := by rw [zfC (by omega) (by omega)]; omega
    have e2 : wr (((b.pb.length + b.rw.length : Nat) : Int) + ((zaP s).length : Int)) = ((b.pb.length + b.rw.length + (zaP s).length : Nat) : Int) := by rw [zfC (by omega) (by omega)]; omega
    have e3 : wr (((b.V + 1 : Nat) : Int) - 1) = (b.V : Int) := by rw [zfC (by omega) (by omega)]; omega
    rw [zbu rfl, Bool.not_true, cond_false, e1, e2, zd5 (by omega), e3, cond_true, zmE (n := b.V) (m := 200) (by omega), zmE (n := b.sm.length) (m := 200) (by omega), zmE (n := b.pb.length) (m := 8) (by omega)]
    simp only [List.length_cons, List.length_nil]
    rw [zbL (by omega), zbL (by omega), zbL (by omega)]
    simp only [mst2]
    cases ltI 64 ((b.pb.length + b.rw.length + (zaP s).length : Nat) : Int) <;> cases eqI s.kind 1 <;> cases leI 200 (b.V : Int) <;> cases eqI s.kind 6 <;> cases leI 200 (b.sm.length : Int) <;> cases eqI s.kind 7 <;> cases leI 8 (b.pb.length : Int) <;> rfl
theorem zsf (N : Nat) (A : Int -> Int -> Int -> List Row -> List Row -> Option (List Row × Unit)) (z : Int) (a b : List Row) : zbp N A z 2 0 a b = cond (ltI (wr (z + (a.length : Int))) 0) none (A (wr (z + (a.length : Int))) 2 1 a b) := by kernel_rfl
theorem zsg (N : Nat) (A : Int -> Int -> Int -> List Row -> List Row -> Option (List Row × Unit)) (z : Int) (a b : List Row) : zbp N A z 2 1 a b = cond (ltI (wr (z + (b.length : Int))) 0) none (A (wr (z + (b.length : Int))) 2 2 a b) := by kernel_rfl
theorem zsh (N : Nat) (A : Int -> Int -> Int -> List Row -> List Row -> Option (List Row × Unit)) (z : Int) (a b : List Row) : zbp N A z 2 2 a b = Option.bind (zez N z) fun rr => zbo N N 2 0 a b rr.1 := by kernel_rfl
theorem zsi (N : Nat) (A : Int -> Int -> List Row -> List Row -> List Row -> Option (List Row × Unit)) (a b l : List Row) : za6 N A 2 0 a b l = must (leN ((l.length + a.length) * 280) 140737488355328) (A 2 1 a b (l ++ a)) := by kernel_rfl
theorem zsj (N : Nat) (A : Int -> Int -> List Row -> List Row -> List Row -> Option (List Row × Unit)) (a b l : List Row) : za6 N A 2 1 a b l = must (leN ((l.length + b.length) * 280) 140737488355328) (A 2 2 a b (l ++ b)) := by kernel_rfl
theorem zsk (N : Nat) (A : Int -> Int -> List Row -> List Row -> List Row -> Option (List Row × Unit)) (a b l : List Row) : za6 N A 2 2 a b l = some (l, ()) := by kernel_rfl
theorem zpT {N : Nat} (hN : 100 <= N) {a b : List Row} (ha : a.length <= 1000) (hb : b.length <= 1000) : zeB N a b = some (a ++ b, ()) := by
  obtain ⟨M, rfl⟩ : ∃ M, N = M + 3 := ⟨N - 3, by omega⟩
  have e1 : wr (0 + (a.length : Int)) = (a.length : Int) := by rw [zfC (by omega) (by omega)]; omega
  have e2 : wr ((a.length : Int) + (b.length : Int)) = ((a.length + b.length : Nat) : Int) := by rw [zfC (by omega) (by omega)]; omega
  show zbO (M + 3) (M + 3) 0 2 0 a b = _
  rw [zbX, zsf, e1, zar (by omega), cond_false, zbX, zsg, e2, zar (by omega), cond_false, zbX, zsh]
  unfold zez
  rw [zex (by omega), Int.toNat_natCast, zbL (by omega), Bool.true_and, mst2, bsm, zbF, zsi]
  simp only [List.length_nil, List.nil_append]
  rw [zbL (by omega), mst2, zbF, zsj, zbL (by omega), mst2, zbF, zsk]
theorem zpU {N : Nat} (hN : 100 <= N) {b : Bd} (h : BdI b) : q117 N (b.V : Int) b.pb b.rw b.sm = some (b.out, ((b.pb.length : Int), (b.V : Int), b.pb ++ b.rw, b.sm, ()), ()) := by
  have i2 := h.p; have i3 := h.r; have i4 := h.m
  unfold q117
  rw [cond_false, zpT hN (by omega) (by omega), bsm]
  unfold q199
  rw [zbL (by omega), mst2, bsm]
  rfl
end
section
def stP (k v : Int) : Stp := ⟨k, v, 0, 0, .zero, .zero, .zero, .zero, .zero⟩
def zaC (v : Int) : Row := ⟨.zero, .zero, .zero, .zero, .zero, one1, .zero, .zero, v, -1, -1⟩
theorem zod {k v : Int} (hk : k = 3 \/ k = 7) (h0 : 0 <= v) (h3 : v < 3) : okS ((3 : Nat) : Int) (stP k v) := by
  rcases hk with rfl | rfl
  . exact ⟨⟨by show (1 : Int) <= 3; decide, by show (3 : Int) <= 7; decide⟩, ⟨zbE, zbE, zbE, zbE, zbE⟩, fun _ => ⟨h3, .inl h0⟩, fun h => absurd h (by show ¬ ((3 : Int) = 2 \/ (3 : Int) = 5 \/ (3 : Int) = 6); decide), fun h => absurd h (by show ¬ ((3 : Int) = 2 \/ (3 : Int) = 4 \/ (3 : Int) = 5); decide)⟩
  . exact ⟨⟨by show (1 : Int) <= 7; decide, by show (7 : Int) <= 7; decide⟩, ⟨zbE, zbE, zbE, zbE, zbE⟩, fun _ => ⟨h3, .inl h0⟩, fun h => absurd h (by show ¬ ((7 : Int) = 2 \/ (7 : Int) = 5 \/ (7 : Int) = 6); decide), fun h => absurd h (by show ¬ ((7 : Int) = 2 \/ (7 : Int) = 4 \/ (7 : Int) = 5); decide)⟩
def bdP (pub oth : List Int) : Bd := ⟨3, pub.map zaz, oth.map zaC, []⟩
structure InP (pub oth : List Int) : Prop where
  p8 : pub.length <= 8
  n : pub.length + oth.length <= 40
  p : ∀ v ∈ pub, 0 <= v /\ v < 3
  o : ∀ v ∈ oth, 0 <= v /\ v < 3
theorem zoe {v : Int} (h0 : 0 <= v) (h3 : v < 3) : zhO ((3 : Nat) : Int) (zaC v) := zd9 (by omega) (zod (.inl rfl) h0 h3) _ (List.mem_singleton.2 rfl)
theorem InP.inv {pub oth : List Int} (h : InP pub oth) : BdI (bdP pub oth) := by
  have h1 := h.p8; have h2 := h.n
  refine ⟨by show 3 <= 200; decide, by show (pub.map zaz).length <= 8; simpa using h1, by show (pub.map zaz).length + (oth.map zaC).length <= 64; simp; omega, Nat.zero_le _, fun r hr => ?_, fun r hr => ?_, fun p hp => (by cases hp)⟩
  . obtain ⟨v, hv, rfl⟩ := List.mem_map.1 hr
    have := h.p v hv
    exact ⟨v.toNat, by show v.toNat < 3; omega, by rw [Int.toNat_of_nonneg (by omega)]⟩
  . obtain ⟨v, hv, rfl⟩ := List.mem_map.1 hr
    have := h.o v hv
    exact zoe this.1 this.2
theorem zsl {pub oth : List Int} (h : InP pub oth) (h8 : pub.length < 8) {v : Int} (h0 : 0 <= v) (h3 : v < 3) : (bdP pub oth).doS (stP 7 v) = (bdP (pub ++ [v]) oth, 0, 0) := by
  have h2 := h.n
  rw [Bd.doS_ok (b := bdP pub oth) (zod (.inr rfl) h0 h3) (fun _ => by show (pub.map zaz).length < 8; simpa using h8) (by show (pub.map zaz).length + (oth.map zaC).length + 1 <= 64; simp; omega) (fun e => absurd e (by show ¬ (7 : Int) = 6; decide)) (fun e => absurd e (by show ¬ (7 : Int) = 1; decide))]
  show ((⟨3, pub.map zaz ++ [zaz v], oth.map zaC, []⟩ : Bd), (0 : Int), (0 : Int)) = _
  unfold bdP
  rw [List.map_append]
  rfl
theorem zpV {pub oth : List Int} (h : InP pub oth) (h8 : ¬ pub.length < 8) {v : Int} (h0 : 0 <= v) (h3 : v < 3) : (bdP pub oth).doS (stP 7 v) = (bdP pub oth, 0, 8) := by
  have h2 := h.n
  unfold Bd.doS
  rw [show errS ((bdP pub oth).V : Int) (stP 7 v) = 0 from zmC (zod (.inr rfl) h0 h3), zbu rfl, cond_true, zar (show ¬ (64 : Int) < (((bdP pub oth).pb.length + (bdP pub oth).rw.length + (zaP (stP 7 v)).length : Nat) : Int) by
    rw [show (zaP (stP 7 v)).length = 1 from rfl, show (bdP pub oth).pb.length = pub.length from List.length_map .., show (bdP pub oth).rw.length = oth.length from List.length_map ..]; omega), cond_false]
  rw [show (bdP pub oth).pb.length = pub.length from List.length_map .., zex (show (8 : Int) <= (pub.length : Int) by omega)]
  rfl
theorem zpW {pub oth : List Int} (h : InP pub oth) {v : Int} (h0 : 0 <= v) (h3 : v < 3) : (bdP pub oth).doS (stP 3 v) = (bdP pub (oth ++ [v]), 0, 0) := by
  have h2 := h.n
  rw [Bd.doS_ok (b := bdP pub oth) (zod (.inl rfl) h0 h3) (fun e => absurd e (by show ¬ (3 : Int) = 7; decide)) (by show (pub.map zaz).length + (oth.map zaC).length + 1 <= 64; simp; omega) (fun e => absurd e (by show ¬ (3 : Int) = 6; decide)) (fun e => absurd e (by show ¬ (3 : Int) = 1; decide))]
  show ((⟨3, pub.map zaz, oth.map zaC ++ [zaC v], []⟩ : Bd), (0 : Int), (0 : Int)) = _
  unfold bdP
  rw [List.map_append]
  rfl
theorem zof {pub oth : List Int} {i : Nat} (hi : i < pub.length) : (pub.map zaz ++ oth.map zaC).getD i zrow = zaz (pub.getD i 0) := by
  rw [List.getD_eq_getElem?_getD, List.getElem?_append_left (by simpa using hi), List.getElem?_map, List.getElem?_eq_getElem hi, List.getD_eq_getElem?_getD, List.getElem?_eq_getElem hi]
  rfl
theorem zog {pub oth : List Int} {i : Nat} (hi : pub.length <= i) (h2 : i < pub.length + oth.length) : (pub.map zaz ++ oth.map zaC).getD i zrow = zaC (oth.getD (i - pub.length) 0) := by
  have h3 : i - pub.length < oth.length := by omega
  rw [List.getD_eq_getElem?_getD, List.getElem?_append_right (by simpa using hi), List.length_map, List.getElem?_map, List.getElem?_eq_getElem h3, List.getD_eq_getElem?_getD, List.getElem?_eq_getElem h3]
  rfl
theorem eqL3 (v : Int) : eqL El.int ([v, (-1 : Int), (-1 : Int)] : List Int) ([v, (-1 : Int), (-1 : Int)] : List Int) = true := by
  simp [eqL, eqE, eqI]
theorem zhP {N : Nat} {c0 c1 : Int} {sm : List Pr} {pub oth : List Int} (hn : pub.length + oth.length <= 40) : ∀ (k i n : Nat), i + k = pub.length + oth.length -> k < n -> zdI N n (i : Int) pub oth c0 c1 (pub.map zaz ++ oth.map zaC) sm = some (true, ())
  | 0, i, n + 1, hi, hk => by
    rw [zft]
    unfold zf9
    rw [zar (by simp; omega), cond_false]
  | k + 1, i, n + 1, hi, hk => by
    have ih := zhP (N := N) (c0 := c0) (c1 := c1) (sm := sm) hn k (i + 1) n (by omega) (by omega)
    have hl : (pub.map zaz ++ oth.map zaC).length = pub.length + oth.length := by simp
    rw [zft]
    unfold zf9
    rw [hl, zbt (show (i : Int) < ((pub.length + oth.length : Nat) : Int) by omega), cond_true, zdF]
    by_cases hp : i < pub.length
    . rw [zbt (show (i : Int) < (pub.length : Int) by omega), cond_true]
      simp only [Bool.and_self, mst2, Int.toNat_natCast]
      rw [zof hp]
      show cond (!eqL El.int ([pub.getD i 0, (-1 : Int), (-1 : Int)] : List Int) ([pub.getD i 0, (-1 : Int), (-1 : Int)] : List Int)) (some (false, ())) (cond (!eqF (⟨1, 0, 0, 0⟩ : Fr) ⟨1, 0, 0, 0⟩) (some (false, ())) (zdI N n (wr ((i : Int) + 1)) pub oth c0 c1 (pub.map zaz ++ oth.map zaC) sm)) = some (true, ())
      rw [eqL3, show eqF (⟨1, 0, 0, 0⟩ : Fr) ⟨1, 0, 0, 0⟩ = true by rfl, zd5 (by omega)]
      exact ih
    . rw [zar (show ¬ (i : Int) < (pub.length : Int) by omega), cond_false]
      have e1 : wr ((i : Int) - (pub.length : Int)) = ((i - pub.length : Nat) : Int) := by rw [zfC (by omega) (by omega)]; omega
      rw [e1, zdF, zbt (show ((i - pub.length : Nat) : Int) < (oth.length : Int) by omega)]
      simp only [Bool.and_self, mst2, Int.toNat_natCast]
      rw [zog (by omega) (by omega)]
      show cond (!eqL El.int ([oth.getD (i - pub.length) 0, (-1 : Int), (-1 : Int)] : List Int) ([oth.getD (i - pub.length) 0, (-1 : Int), (-1 : Int)] : List Int)) (some (false, ())) (cond (!eqF (⟨1, 0, 0, 0⟩ : Fr) ⟨1, 0, 0, 0⟩) (some (false, ())) (zdI N n (wr ((i : Int) + 1)) pub oth c0 c1 (pub.map zaz ++ oth.map zaC) sm)) = some (true, ())
      rw [eqL3, show eqF (⟨1, 0, 0, 0⟩ : Fr) ⟨1, 0, 0, 0⟩ = true by rfl, zd5 (by omega)]
      exact ih
abbrev Lp29 := (List UInt8) -> Int -> Int -> (List Int) -> (List Int) -> (List Row) -> (List Row) -> (List Pr) -> Option (Bool × Unit)
def varP (l : List UInt8) (i : Nat) : Int := Int.tmod ((((l.getD i 0) / 2).toNat : Nat) : Int) 3
theorem zpX (l : List UInt8) (i : Nat) : 0 <= varP l i /\ varP l i < 3 := by
  unfold varP
  exact ⟨Int.tmod_nonneg _ (by omega), Int.tmod_lt_of_pos _ (by decide)⟩
theorem zoh (N : Nat) (A : Lp29) (l : List UInt8) (i : Nat) (hi : i < l.length) (V : Int) (pub oth : List Int) (pb rw' : List Row) (sm : List Pr) (hx : (l.getD i 0 % 2 == 1) = true) :
    zdJ N A l (i : Int) V pub oth pb rw' sm = Option.bind (q114 N V pb rw' sm (stP 7 (varP l i))) fun rr => cond (leI 8 (pub.length : Int)) (cond (!eqI rr.2.2.1 8) (some (false, ())) (A l (wr ((i : Int) + 1)) rr.1.1 pub oth rr.1.2.1 rr.1.2.2.1 rr.1.2.2.2.1))
      (cond (!eqI rr.2.2.1 0) (some (false, ())) (must (leN ((pub.length + 1) * 8) 140737488355328) (A l (wr ((i : Int) + 1)) rr.1.1 (pub ++ [varP l i]) oth rr.1.2.1 rr.1.2.2.1 rr.1.2.2.2.1))) := by
  unfold zdJ
  rw [zbt (show (i : Int) < (l.length : Int) by omega), cond_true, zdF, Bool.true_and, mst2, mst2, Int.toNat_natCast, hx, cond_true]
  rfl
theorem zmF (N : Nat) (A : Lp29) (l : List UInt8) (i : Nat) (hi : i < l.length) (V : Int) (pub oth : List Int) (pb rw' : List Row) (sm : List Pr) (hx : (l.getD i 0 % 2 == 1) = false) :
    zdJ N A l (i : Int) V pub oth pb rw' sm = Option.bind (q114 N V pb rw' sm (stP 3 (varP l i))) fun rr => cond (!eqI rr.2.2.1 0) (some (false, ())) (must (leN ((oth.length + 1) * 8) 140737488355328) (A l (wr ((i : Int) + 1)) rr.1.1 pub (oth ++ [varP l i]) rr.1.2.1 rr.1.2.2.1 rr.1.2.2.2.1)) := by
  unfold zdJ
  rw [zbt (show (i : Int) < (l.length : Int) by omega), cond_true, zdF, Bool.true_and, mst2, mst2, Int.toNat_natCast, hx, cond_false]
  rfl
theorem zdL {N : Nat} (hN : 2000 <= N) (l : List UInt8) (hl : l.length <= 40) : ∀ (k i n : Nat) (pub oth : List Int), InP pub oth -> pub.length + oth.length <= i -> i + k = l.length -> k < n ->
    zc9 N n l (i : Int) 3 pub oth (pub.map zaz) (oth.map zaC) [] = some (true, ())
  | 0, i, n + 1, pub, oth, h, hi, hk, hn => by
    have e : q117 N 3 (pub.map zaz) (oth.map zaC) [] = _ := zpU (by omega) h.inv
    rw [zfu]
    unfold zdJ
    rw [zar (by omega), cond_false, e, bsm]
    have h1 := h.p8; have h2 := h.n
    show cond (!eqI ((pub.map zaz).length : Int) (pub.length : Int)) (some (false, ())) (cond (!eqI ((pub.map zaz ++ oth.map zaC).length : Int) (wr ((pub.length : Int) + (oth.length : Int)))) (some (false, ())) (zdI N N 0 pub oth ((pub.map zaz).length : Int) 3 (pub.map zaz ++ oth.map zaC) [])) = some (true, ())
    have e2 : wr ((pub.length : Int) + (oth.length : Int)) = ((pub.length + oth.length : Nat) : Int) := by rw [zfC (by omega) (by omega)]; omega
    rw [e2, zbu (by simp), Bool.not_true, cond_false, zbu (by simp), Bool.not_true, cond_false]
    exact zhP h2 (pub.length + oth.length) 0 N (by omega) (by omega)
  | k + 1, i, n + 1, pub, oth, h, hi, hk, hn => by
    have h1 := h.p8; have h2 := h.n
    obtain ⟨v0, v3⟩ := zpX l i
    rw [zfu]
    cases hx : (l.getD i 0 % 2 == 1) with
    | true =>
      rw [zoh N _ l i (by omega) _ _ _ _ _ _ hx]
      have e : q114 N 3 (pub.map zaz) (oth.map zaC) [] (stP 7 (varP l i)) = _ := zjz (by omega) h.inv (stP 7 (varP l i))
      rw [e, bsm]
      by_cases h8 : pub.length < 8
      . rw [zsl h h8 v0 v3, zaO (by omega), cond_false]
        show cond (!eqI 0 0) (some (false, ())) (must (leN ((pub.length + 1) * 8) 140737488355328) (zc9 N n l (wr ((i : Int) + 1)) 3 (pub ++ [varP l i]) oth ((pub ++ [varP l i]).map zaz) (oth.map zaC) [])) = some (true, ())
        rw [zbu rfl, Bool.not_true, cond_false, zbL (by omega), mst2, zd5 (by omega)]
        refine zdL hN l hl k (i + 1) n _ _ ⟨by simp; omega, by simp; omega, fun v hv => ?_, h.o⟩ (by simp; omega) (by omega) (by omega)
        rcases List.mem_append.1 hv with hv | hv
        . exact h.p v hv
        . rw [List.mem_singleton] at hv; rw [hv]; exact ⟨v0, v3⟩
      . rw [zpV h h8 v0 v3, zex (by omega), cond_true]
        show cond (!eqI 8 8) (some (false, ())) (zc9 N n l (wr ((i : Int) + 1)) 3 pub oth (pub.map zaz) (oth.map zaC) []) = some (true, ())
        rw [zbu rfl, Bool.not_true, cond_false, zd5 (by omega)]
        exact zdL hN l hl k (i + 1) n _ _ h (by omega) (by omega) (by omega)
    | false =>
      rw [zmF N _ l i (by omega) _ _ _ _ _ _ hx]
      have e : q114 N 3 (pub.map zaz) (oth.map zaC) [] (stP 3 (varP l i)) = _ := zjz (by omega) h.inv (stP 3 (varP l i))
      rw [e, bsm, zpW h v0 v3]
      show cond (!eqI 0 0) (some (false, ())) (must (leN ((oth.length + 1) * 8) 140737488355328) (zc9 N n l (wr ((i : Int) + 1)) 3 pub (oth ++ [varP l i]) (pub.map zaz) ((oth ++ [varP l i]).map zaC) [])) = some (true, ())
      rw [zbu rfl, Bool.not_true, cond_false, zbL (by omega), mst2, zd5 (by omega)]
      refine zdL hN l hl k (i + 1) n _ _ ⟨h1, by simp; omega, h.p, fun v hv => ?_⟩ (by simp; omega) (by omega) (by omega)
      rcases List.mem_append.1 hv with hv | hv
      . exact h.o v hv
      . rw [List.mem_singleton] at hv; rw [hv]; exact ⟨v0, v3⟩
theorem zkp (l : List UInt8) : zmv 2000 2000 l 0 0 [] [] [] = zc9 2000 2000 l 0 3 [] [] [] [] [] := by kernel_rfl
theorem zpY (l : List UInt8) : q29 2000 l = some (true, ()) := by
  unfold q29
  rw [zrz, bsm]
  show cond false (some (false, ())) (cond (ltI 40 (l.length : Int)) (some (true, ())) (zmv 2000 2000 l 0 0 [] [] [])) = some (true, ())
  rw [cond_false]
  by_cases h : 40 < l.length
  . rw [zbt (by omega), cond_true]
  . rw [zar (by omega), cond_false, zkp]
    exact zdL (N := 2000) (Nat.le_refl _) l (by omega) l.length 0 2000 [] [] ⟨by decide, by decide, fun v h => (by cases h), fun v h => (by cases h)⟩ (by decide) (by omega) (by omega)
end
end Go.Proofs.Ytgimohchocjgcaa.V
