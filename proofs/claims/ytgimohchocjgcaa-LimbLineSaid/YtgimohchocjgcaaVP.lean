/- Parts of lists, lengths, lists as text. -/
import Derived.Test.YtgimohchocjgcaaVN
set_option linter.unusedVariables false
set_option linter.unusedSimpArgs false
namespace Go.Proofs.Ytgimohchocjgcaa.V

variable {X : Ctx} {ρ : Nat → RI} {s : St} {a : Act} {w : World}

theorem optI_spec (h : Sim X ρ s a w) {x : Option Operand} {n : Option Int} (hx : optI X.pd s x = some n) :
    (x = none ∧ n = none) ∨ ∃ y k j, x = some y ∧ n = some k ∧ a.eval y = .int j k := by
  unfold optI at hx
  split at hx
  · cases hx; exact .inl ⟨rfl, rfl⟩
  · rename_i y
    split at hx
    · rename_i k hk
      cases hx
      obtain ⟨j, hj⟩ := ev_int h hk
      exact .inr ⟨y, k, j, rfl, rfl, hj⟩
    · cases hx

theorem bnds_spec {lo hi : Option Int} {n : Nat} (h : bnds lo hi n = true) : ∃ l u : Nat, lo.getD 0 = l ∧ hi.getD n = u ∧ l ≤ u ∧ u ≤ n := by
  simp only [bnds, leI, Bool.and_eq_true, decide_eq_true_eq] at h
  exact ⟨(lo.getD 0).toNat, (hi.getD n).toNat, by omega, by omega, by omega, by omega⟩

theorem run_bounds {P : Program} (isS : Bool) (len cap : Nat) (lo hi : Option Value) (l u : Nat) (hlu : l ≤ u) (hu : u ≤ cap)
    (hlo : (lo = none ∧ l = 0) ∨ ∃ j, lo = some (.int j l)) (hhi : (hi = none ∧ u = len) ∨ ∃ j, hi = some (.int j u)) (w : World) :
    (Instr.sliceBounds isS len cap lo hi none).run P w = .ok (l, u, cap) w := by
  have h1 : (0 : Int) ≤ (u : Int) ∧ (u : Int) ≤ (cap : Int) := by omega
  have h2 : (0 : Int) ≤ (l : Int) ∧ (l : Int) ≤ (u : Int) := by omega
  have b1 : ∀ j c, (Instr.sliceBound (.int j u) cap c).run P w = .ok u w := fun j c => by
    simp only [Instr.sliceBound, asIntOf, Sem.run_bind, Sem.run_pure, Result.andThen_ok]
    rw [if_pos h1]; simp
  have b2 : ∀ j c, (Instr.sliceBound (.int j l) u c).run P w = .ok l w := fun j c => by
    simp only [Instr.sliceBound, asIntOf, Sem.run_bind, Sem.run_pure, Result.andThen_ok]
    rw [if_pos h2]; simp
  rcases hlo with ⟨rfl, rfl⟩ | ⟨j1, rfl⟩ <;> rcases hhi with ⟨rfl, rfl⟩ | ⟨j2, rfl⟩ <;> simp [Instr.sliceBounds, b1, b2]

theorem run_slice {P : Program} {t et : TypeId} {ei : TI} (hu : P.underlying t = some (.slice et)) (hei : TIok P et ei) (ad : Option Addr) (len cap : Nat) (lo hi : Option Value) (l u : Nat) (hlu : l ≤ u) (hul : u ≤ len) (hlc : len ≤ cap)
    (hlo : (lo = none ∧ l = 0) ∨ ∃ j, lo = some (.int j l)) (hhi : (hi = none ∧ u = len) ∨ ∃ j, hi = some (.int j u)) (w : World) :
    (Instr.sliceAt t (.slice ad len cap) lo hi none).run P w = .ok (.slice (if cap = l then ad else ad.map (·.add (l * ei.size))) (u - l) (cap - l)) w := by
  have := run_bounds (P := P) true len cap lo hi l u hlu (by omega) hlo hhi w
  simp [Instr.sliceAt, Instr.slice, run_underlying hu, this, TI.size_run hei]

theorem run_sliceArr {P : Program} {t et : TypeId} {n : Nat} {ei : TI} (hu : P.underlying t = some (.array n et)) (hei : TIok P et ei) (ad : Addr) (lo hi : Option Value) (l u : Nat) (hlu : l ≤ u) (hul : u ≤ n)
    (hlo : (lo = none ∧ l = 0) ∨ ∃ j, lo = some (.int j l)) (hhi : (hi = none ∧ u = n) ∨ ∃ j, hi = some (.int j u)) (w : World) :
    (Instr.sliceAt t (.pointer (some ad)) lo hi none).run P w = .ok (.slice (some (if n = l then ad else ad.add (l * ei.size))) (u - l) (n - l)) w := by
  have := run_bounds (P := P) false n n lo hi l u hlu hul hlo hhi w
  simp [Instr.sliceAt, Instr.sureAddr, run_underlying hu, this, TI.size_run hei]

theorem ope {lo : Option Operand} {n : Option Int} {l : Nat} (hd : n.getD 0 = l) (h : (lo = none ∧ n = none) ∨ ∃ y k j, lo = some y ∧ n = some k ∧ a.eval y = .int j k) :
    (lo.map a.eval = none ∧ l = 0) ∨ ∃ j, lo.map a.eval = some (.int j l) := by
  rcases h with ⟨rfl, rfl⟩ | ⟨y, k, j, rfl, rfl, h⟩
  · left; simp at hd; exact ⟨rfl, by omega⟩
  · right; simp at hd; subst hd; exact ⟨j, by simp [h]⟩

theorem oph {hi : Option Operand} {n : Option Int} {u m : Nat} (hd : n.getD (m : Int) = u) (h : (hi = none ∧ n = none) ∨ ∃ y k j, hi = some y ∧ n = some k ∧ a.eval y = .int j k) :
    (hi.map a.eval = none ∧ u = m) ∨ ∃ j, hi.map a.eval = some (.int j u) := by
  rcases h with ⟨rfl, rfl⟩ | ⟨y, k, j, rfl, rfl, h⟩
  · left; simp at hd; exact ⟨rfl, by omega⟩
  · right; simp at hd; subst hd; exact ⟨j, by simp [h]⟩

theorem does_part {o : Oper} (hp : PDok X.P X.pd) (t : TypeId) (x : Operand) (lo up : Option Operand) (ho : o.op = .slice t x lo up none) {c d : C} {l u : Option Int} {rd : List Nat}
    (hx : (X.pd.ev t s x).c? = some c) (hl : optI X.pd s lo = some l) (hh : optI X.pd s up = some u) (hi : X.pd.part t s c l u = some (true, d)) : Does X o s ⟨o.dst, .u (.c d), [], [], [], rd⟩ := by
  intro ρ a w Q h _
  have hv := ev_c h hx
  have hl' := optI_spec h hl
  have hh' := optI_spec h hh
  have key : ∀ {v : Value}, RC X ρ d v → (Instr.sliceAt t (a.eval x) (lo.map a.eval) (up.map a.eval) none).run X.P w = .ok v w →
      o.wp X.P a w (fun a' w' => ∃ ρ', Sim X ρ' ((⟨o.dst, .u (.c d), [], [], [], rd⟩ : Eff).app s) a' w') Q := fun hrc hrun => by
    refine wp_val h ?_ (show RV X ρ (.u (.c d)) _ from hrc)
    simp [execOp, ho, hrun]
  unfold PD.part at hi
  split at hi
  · rename_i id
    obtain ⟨hv, _⟩ := hv
    split at hi
    · rename_i n' ty e ll hg
      obtain ⟨hc1, hc2⟩ := cond_some hi
      obtain ⟨et, ei, hu, hei, hsz, _⟩ := slIs_spec hp hc1
      simp only [Option.some.injEq, Prod.mk.injEq] at hc2
      obtain ⟨hgd, rfl⟩ := hc2
      obtain ⟨p, q, h1, h2, h3, h4⟩ := bnds_spec hgd
      have hro := h.ob _ _ hg
      have e1 := hro.sz
      have e2 := hro.len
      simp only [O.sz, O.len] at e1 e2
      have e3 : (u.getD ↑ll.length - l.getD 0).toNat = q - p := by omega
      have e4 : (l.getD 0).toNat = p := by omega
      rcases row_val hro with ⟨hnil, rfl⟩ | ⟨cap, hv2, hcap, hmax⟩
      · simp only [List.length_nil, Nat.le_zero_eq] at h4
        subst h4
        have : p = 0 := by omega
        subst this
        rw [hv, hnil] at key
        refine key ?_ (run_slice hu (hp.ti _ _ hei) none 0 0 _ _ 0 0 (Nat.le_refl _) (Nat.le_refl _) (Nat.le_refl _) (ope h1 hl') (oph h2 hh') w)
        simp only [RC, e3, e4]
        exact ⟨by omega, 0, by omega, by simp, .inr ⟨by simp, none, by simp⟩⟩
      · rw [hv, hv2] at key
        refine key ?_ (run_slice hu (hp.ti _ _ hei) _ ll.length cap _ _ p q h3 h4 hcap (ope h1 hl') (oph h2 hh') w)
        simp only [RC, e3, e4]
        refine ⟨by omega, cap - p, by omega, by omega, ?_⟩
        by_cases hcp : cap = p
        · right; refine ⟨by omega, _, by rw [show q - p = 0 by omega]⟩
        · left; simp [if_neg hcp, addr_add, e1, hsz]
    · cases hi
  · rename_i id i m
    obtain ⟨hlen, cap, hcap, hmax, hv⟩ := hv
    split at hi
    · rename_i rw' n' ty e ll hg
      obtain ⟨hc1, hc2⟩ := cond_some hi
      obtain ⟨et, ei, hu, hei, hsz, _⟩ := slIs_spec hp hc1
      simp only [Option.some.injEq, Prod.mk.injEq] at hc2
      obtain ⟨hgd, rfl⟩ := hc2
      obtain ⟨p, q, h1, h2, h3, h4⟩ := bnds_spec hgd
      have hro := h.ob _ _ hg
      have e1 := hro.sz
      simp only [O.sz] at e1
      have e3 : (u.getD ↑m - l.getD 0).toNat = q - p := by omega
      have e4 : (l.getD 0).toNat = p := by omega
      rcases hv with hv | ⟨hm0, ad, hv⟩
      · rw [hv] at key
        refine key ?_ (run_slice hu (hp.ti _ _ hei) _ m cap _ _ p q h3 h4 hcap (ope h1 hl') (oph h2 hh') w)
        simp only [RC, e3, e4]
        refine ⟨by omega, cap - p, by omega, by omega, ?_⟩
        by_cases hcp : cap = p
        · right; refine ⟨by omega, _, by rw [show q - p = 0 by omega]⟩
        · left; simp [if_neg hcp, addr_add, e1, hsz, Nat.add_mul]
      · rw [hv] at key
        subst hm0
        refine key ?_ (run_slice hu (hp.ti _ _ hei) ad 0 cap _ _ p q h3 h4 hcap (ope h1 hl') (oph h2 hh') w)
        simp only [RC, e3, e4]
        exact ⟨by omega, cap - p, by omega, by omega, .inr ⟨by omega, _, by rw [show q - p = 0 by omega]⟩⟩
    · cases hi
  · rename_i e ll
    obtain ⟨hc1, hc2⟩ := cond_some hi
    obtain ⟨et, ei, hu, hei, hsz, _⟩ := slIs_spec hp hc1
    simp only [Option.some.injEq, Prod.mk.injEq] at hc2
    obtain ⟨hgd, rfl⟩ := hc2
    obtain ⟨p, q, h1, h2, h3, h4⟩ := bnds_spec hgd
    have e3 : (u.getD ↑ll.length - l.getD 0).toNat = q - p := by omega
    have e4 : (l.getD 0).toNat = p := by omega
    have hv : Holds X.w0 X.ok (.ro e ll) (a.eval x) := hv
    generalize a.eval x = vx at hv key
    have hlen2 : ((ll.drop p).take (q - p)).length = q - p := by simp; omega
    cases hv with
    | sc h => cases h
    | ro f g1 g2 g3 g4 g5 =>
      rename_i b off cap
      refine key ?_ (run_slice hu (hp.ti _ _ hei) _ ll.length cap _ _ p q h3 h4 g1 (ope h1 hl') (oph h2 hh') w)
      rw [e3, e4]
      show Holds X.w0 X.ok _ _
      by_cases hcp : cap = p
      · have : q - p = 0 := by omega
        rw [this, List.take_zero]
        exact Holds.emp
      · rw [if_neg hcp]
        simp only [Option.map_some, addr_add, hsz]
        have := Holds.ro (w := X.w0) (ok := X.ok) (e := e) (l := (ll.drop p).take (q - p)) (b := b) (off := off + p * e.size) (cap := cap - p) (fun j => f (p * e.size + j)) (by rw [hlen2]; omega) (by omega) g3
          (fun j c hc => by
            rw [flat_take, flat_drop, List.getElem?_take, List.getElem?_drop] at hc
            split at hc
            · rw [Nat.add_assoc]; exact g4 _ c hc
            · cases hc)
          (fun j c hc => by
            rw [flat_take, flat_drop, List.getElem?_take, List.getElem?_drop] at hc
            split at hc
            · exact g5 _ c hc
            · cases hc)
        rwa [hlen2] at this
    | @emp _ ad cap =>
      simp only [List.length_nil, Nat.le_zero_eq] at h4
      subst h4
      have : p = 0 := by omega
      subst this
      refine key ?_ (run_slice hu (hp.ti _ _ hei) ad 0 cap _ _ 0 0 (Nat.le_refl _) (Nat.le_refl _) (Nat.zero_le _) (ope h1 hl') (oph h2 hh') w)
      rw [e3, e4]
      exact Holds.emp
  · rename_i id
    obtain ⟨hi1, hi2, hv⟩ := hv
    split at hi
    · rename_i m e sz by' z y ht hg
      obtain ⟨hc1, hc2⟩ := cond_some hi
      simp only [Option.some.injEq, Prod.mk.injEq] at hc2
      obtain ⟨hgd, rfl⟩ := hc2
      obtain ⟨p, q, h1, h2, h3, h4⟩ := bnds_spec hgd
      simp only [Bool.and_eq_true, Bool.not_eq_true'] at hc1
      obtain ⟨hb1, hb2, hb4, hb3⟩ := hc1
      have e0 := Nat.beq_true hb2
      have hu := (hp.ti _ _ ht).kind.1
      have hro := h.ob _ _ hg
      unfold O.isVec at hb1
      split at hb1
      · rename_i f ll hf
        obtain ⟨ei, hei, hsz, _⟩ := elIs_spec hp hb1
        have e1 := hro.sz
        have e2 := hro.len
        rw [hf] at e1 e2
        simp only [O.sz, O.len] at e1 e2
        have hl := fun h0 => hro.n hb3 h0 f ll hf
        have e3 : (u.getD ↑m - l.getD 0).toNat = q - p := by omega
        have e4 : (l.getD 0).toNat = p := by omega
        rw [hv] at key
        refine key ?_ (run_sliceArr hu (hp.ti _ _ hei) _ _ _ p q h3 h4 (ope h1 hl') (oph h2 hh') w)
        simp only [RC, e3, e4]
        have hmm : m ≤ maxLen := by have : m ≤ 4294967296 := by simpa [Nat.ble_eq] using hb4
                                    simp only [maxLen]; omega
        refine ⟨by omega, m - p, by omega, by omega, ?_⟩
        by_cases hcp : m = p
        · right; refine ⟨by omega, _, by rw [show q - p = 0 by omega]⟩
        · left; simp [if_neg hcp, addr_add, e1, hsz]
      · cases hb1
    · cases hi
  · cases hi

end Go.Proofs.Ytgimohchocjgcaa.V
