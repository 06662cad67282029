import Derived.Laws.BytesString
import Derived.Test.YtgimohchocjgcaaVMB
set_option linter.unusedVariables false
set_option linter.unusedSimpArgs false
namespace Go.Proofs.Ytgimohchocjgcaa.V
section
variable {X : Ctx} {ρ : Nat -> RI} {s : St} {a : Act} {w : World}
theorem zke (h : Sim X ρ s a w) {x : Option Operand} {n : Option Int} (hx : optI X.pd s x = some n) :
    (x = none /\ n = none) \/ ∃ y k j, x = some y /\ n = some k /\ a.eval y = .int j k := by
  unfold optI at hx
  split at hx
  . cases hx; exact .inl ⟨rfl, rfl⟩
  . rename_i y
    split at hx
    . rename_i k hk
      cases hx
      obtain ⟨j, hj⟩ := znh h hk
      exact .inr ⟨y, k, j, rfl, rfl, hj⟩
    . cases hx
theorem zeC {lo hi : Option Int} {n : Nat} (h : bnds lo hi n = true) : ∃ l u : Nat, lo.getD 0 = l /\ hi.getD n = u /\ l <= u /\ u <= n := by
  simp only [bnds, leI, Bool.and_eq_true, decide_eq_true_eq] at h
  exact ⟨(lo.getD 0).toNat, (hi.getD n).toNat, by omega, by omega, by omega, by omega⟩
theorem zfk {P : Program} (isS : Bool) (len cap : Nat) (lo hi : Option Value) (l u : Nat) (hlu : l <= u) (hu : u <= cap)
    (hlo : (lo = none /\ l = 0) \/ ∃ j, lo = some (.int j l)) (hhi : (hi = none /\ u = len) \/ ∃ j, hi = some (.int j u)) (w : World) :
    (Instr.sliceBounds isS len cap lo hi none).run P w = .ok (l, u, cap) w := by
  have h1 : (0 : Int) <= (u : Int) /\ (u : Int) <= (cap : Int) := by omega
  have h2 : (0 : Int) <= (l : Int) /\ (l : Int) <= (u : Int) := by omega
  have b1 : ∀ j c, (Instr.sliceBound (.int j u) cap c).run P w = .ok u w := fun j c => by
    simp only [Instr.sliceBound, asIntOf, Sem.run_bind, Sem.run_pure, Result.andThen_ok]
    rw [if_pos h1]; simp
  have b2 : ∀ j c, (Instr.sliceBound (.int j l) u c).run P w = .ok l w := fun j c => by
    simp only [Instr.sliceBound, asIntOf, Sem.run_bind, Sem.run_pure, Result.andThen_ok]
    rw [if_pos h2]; simp
  rcases hlo with ⟨rfl, rfl⟩ | ⟨j1, rfl⟩ <;> rcases hhi with ⟨rfl, rfl⟩ | ⟨j2, rfl⟩ <;> simp [Instr.sliceBounds, b1, b2]
theorem zcY {P : Program} {t et : TypeId} {ei : TI} (hu : P.underlying t = some (.slice et)) (hei : TIok P et ei) (ad : Option Addr) (len cap : Nat) (lo hi : Option Value) (l u : Nat) (hlu : l <= u) (hul : u <= len) (hlc : len <= cap)
    (hlo : (lo = none /\ l = 0) \/ ∃ j, lo = some (.int j l)) (hhi : (hi = none /\ u = len) \/ ∃ j, hi = some (.int j u)) (w : World) :
    (Instr.sliceAt t (.slice ad len cap) lo hi none).run P w = .ok (.slice (if cap = l then ad else ad.map (·.add (l * ei.size))) (u - l) (cap - l)) w := by
  have := zfk (P := P) true len cap lo hi l u hlu (by omega) hlo hhi w
  simp [Instr.sliceAt, Instr.slice, run_underlying hu, this, TI.size_run hei]
theorem zoi {P : Program} {t et : TypeId} {ei : TI} (hu : P.underlying t = some (.slice et)) (hei : TIok P et ei) (ad : Option Addr) (len cap : Nat) (lo hi : Option Value) (l u : Nat) (hlu : l <= u) (huc : u <= cap)
    (hlo : (lo = none /\ l = 0) \/ ∃ j, lo = some (.int j l)) (hhi : (hi = none /\ u = len) \/ ∃ j, hi = some (.int j u)) (w : World) :
    (Instr.sliceAt t (.slice ad len cap) lo hi none).run P w = .ok (.slice (if cap = l then ad else ad.map (·.add (l * ei.size))) (u - l) (cap - l)) w := by
  have := zfk (P := P) true len cap lo hi l u hlu huc hlo hhi w
  simp [Instr.sliceAt, Instr.slice, run_underlying hu, this, TI.size_run hei]
theorem zpE {hi : Option Int} {n c : Nat} (h : bndc none hi n c = true) : ∃ u : Nat, hi.getD n = u /\ u <= c := by
  simp only [bndc, leI, Option.getD_none, Bool.and_eq_true, decide_eq_true_eq] at h
  exact ⟨(hi.getD n).toNat, by omega, by omega⟩
theorem zfL {P : Program} {t et : TypeId} {n : Nat} {ei : TI} (hu : P.underlying t = some (.array n et)) (hei : TIok P et ei) (ad : Addr) (lo hi : Option Value) (l u : Nat) (hlu : l <= u) (hul : u <= n)
    (hlo : (lo = none /\ l = 0) \/ ∃ j, lo = some (.int j l)) (hhi : (hi = none /\ u = n) \/ ∃ j, hi = some (.int j u)) (w : World) :
    (Instr.sliceAt t (.pointer (some ad)) lo hi none).run P w = .ok (.slice (some (if n = l then ad else ad.add (l * ei.size))) (u - l) (n - l)) w := by
  have := zfk (P := P) false n n lo hi l u hlu hul hlo hhi w
  simp [Instr.sliceAt, Instr.sureAddr, run_underlying hu, this, TI.size_run hei]
theorem ope {lo : Option Operand} {n : Option Int} {l : Nat} (hd : n.getD 0 = l) (h : (lo = none /\ n = none) \/ ∃ y k j, lo = some y /\ n = some k /\ a.eval y = .int j k) :
    (lo.map a.eval = none /\ l = 0) \/ ∃ j, lo.map a.eval = some (.int j l) := by
  rcases h with ⟨rfl, rfl⟩ | ⟨y, k, j, rfl, rfl, h⟩
  . left; simp at hd; exact ⟨rfl, by omega⟩
  . right; simp at hd; subst hd; exact ⟨j, by simp [h]⟩
theorem oph {hi : Option Operand} {n : Option Int} {u m : Nat} (hd : n.getD (m : Int) = u) (h : (hi = none /\ n = none) \/ ∃ y k j, hi = some y /\ n = some k /\ a.eval y = .int j k) :
    (hi.map a.eval = none /\ u = m) \/ ∃ j, hi.map a.eval = some (.int j u) := by
  rcases h with ⟨rfl, rfl⟩ | ⟨y, k, j, rfl, rfl, h⟩
  . left; simp at hd; exact ⟨rfl, by omega⟩
  . right; simp at hd; subst hd; exact ⟨j, by simp [h]⟩
theorem zpF {o : Oper} (hp : PDok X.P X.pd) (t : TypeId) (x : Operand) (lo up : Option Operand) (ho : o.op = .slice t x lo up none) {c d : C} {l u : Option Int} {rd : List Nat}
    (hx : (X.pd.ev t s x).c? = some c) (hl : optI X.pd s lo = some l) (hh : optI X.pd s up = some u) (hi : X.pd.part t s c l u = some (true, d)) : Does X o s ⟨o.dst, .u (.c d), [], [], [], rd⟩ := by
  intro ρ a w Q h _
  have hv := ev_c h hx
  have hl' := zke h hl
  have hh' := zke h hh
  have key : ∀ {v : Value}, RC X ρ d v -> (Instr.sliceAt t (a.eval x) (lo.map a.eval) (up.map a.eval) none).run X.P w = .ok v w ->
      o.wp X.P a w (fun a' w' => ∃ ρ', Sim X ρ' ((⟨o.dst, .u (.c d), [], [], [], rd⟩ : Eff).app s) a' w') Q := fun hrc hrun => by
    refine zaW h ?_ (show RV X ρ (.u (.c d)) _ from hrc)
    simp [execOp, ho, hrun]
  have lit : ∀ id sub, X.pd.partLit t s id sub l u = some (true, d) -> 0 < (ρ id).len -> sub < (ρ id).sz -> a.eval x = .pointer (some ⟨(ρ id).blk, 0 * (ρ id).sz + sub, none⟩) ->
      o.wp X.P a w (fun a' w' => ∃ ρ', Sim X ρ' ((⟨o.dst, .u (.c d), [], [], [], rd⟩ : Eff).app s) a' w') Q := by
    intro id sub hi hi1 hi2 hv
    unfold PD.partLit at hi
    split at hi
    case h_2 => cases hi
    split at hi
    case h_2 => cases hi
    rename_i m et sz by' z ht
    split at hi
    case h_2 => cases hi
    rename_i nn ty ll hg
    split at hi
    case h_2 => cases hi
    rename_i e hel
    obtain ⟨hc1, hc2⟩ := zaa hi
    simp only [oi1, pi1, true_and] at hc2
    subst hc2
    simp only [Bool.and_eq_true] at hc1
    obtain ⟨hm0, hm1, hm2⟩ := hc1
    have hm0 : 0 < m := by simpa [Nat.blt_eq] using hm0
    have hm1 : m <= 4294967296 := by simpa [Nat.ble_eq] using hm1
    have hm2 : sub + m * e.size <= ll.length := by simpa [Nat.ble_eq] using hm2
    obtain ⟨ei, hei, _, _⟩ := hp.el _ _ hel
    have hu := (hp.ti _ _ ht).kind.1
    have hro := h.ob _ _ hg
    have e1 := hro.sz
    have e2 := hro.len
    simp only [O.sz, O.len] at e1 e2
    rw [hv] at key
    refine key ?_ (zfL hu (hp.ti _ _ hei) _ _ _ 0 m (Nat.zero_le _) (Nat.le_refl _) (ope rfl hl') (oph rfl hh') w)
    have hne : m ≠ 0 := by omega
    refine ⟨e2, by omega, by simp only [maxLen]; omega, ?_⟩
    simp [hne, zaT]
  unfold PD.part at hi
  split at hi
  . rename_i id
    obtain ⟨hv, _⟩ := hv
    split at hi
    . rename_i n' ty e ll hg
      obtain ⟨hc1, hc2⟩ := zaa hi
      obtain ⟨et, ei, hu, hei, hsz, _⟩ := zcl hp hc1
      simp only [oi1, pi1] at hc2
      obtain ⟨hgd, rfl⟩ := hc2
      obtain ⟨p, q, h1, h2, h3, h4⟩ := zeC hgd
      have hro := h.ob _ _ hg
      have e1 := hro.sz
      have e2 := hro.len
      simp only [O.sz, O.len] at e1 e2
      have e3 : (u.getD ↑ll.length - l.getD 0).toNat = q - p := by omega
      have e4 : (l.getD 0).toNat = p := by omega
      rcases zb4 hro with ⟨hnil, rfl⟩ | ⟨cap, hv2, hcap, hmax⟩
      . simp only [List.length_nil, Nat.le_zero_eq] at h4
        subst h4
        have : p = 0 := by omega
        subst this
        rw [hv, hnil] at key
        refine key ?_ (zcY hu (hp.ti _ _ hei) none 0 0 _ _ 0 0 (Nat.le_refl _) (Nat.le_refl _) (Nat.le_refl _) (ope h1 hl') (oph h2 hh') w)
        simp only [RC, e3, e4]
        exact ⟨by omega, 0, by omega, by simp, (fun hu => by rw [hnil] at hu; simp [undef] at hu), .inr ⟨by simp, none, by simp⟩⟩
      . rw [hv, hv2] at key
        refine key ?_ (zcY hu (hp.ti _ _ hei) _ ll.length cap _ _ p q h3 h4 hcap (ope h1 hl') (oph h2 hh') w)
        simp only [RC, e3, e4]
        refine ⟨by omega, cap - p, by omega, by omega, (fun hu => by rw [hv2] at hu; simp [undef] at hu), ?_⟩
        by_cases hcp : cap = p
        . right; refine ⟨by omega, _, by rw [show q - p = 0 by omega]⟩
        . left; simp [if_neg hcp, zaT, e1, hsz]
    . cases hi
  . rename_i id i m
    obtain ⟨hlen, cap, hcap, hmax, hfix, hv⟩ := hv
    split at hi
    . rename_i rw' n' ty e ll hg
      obtain ⟨hc1, hc2⟩ := zaa hi
      obtain ⟨et, ei, hu, hei, hsz, _⟩ := zcl hp hc1
      simp only [oi1, pi1] at hc2
      obtain ⟨hgd, rfl⟩ := hc2
      obtain ⟨p, q, h1, h2, h3, h4⟩ := zeC hgd
      have hro := h.ob _ _ hg
      have e1 := hro.sz
      simp only [O.sz] at e1
      have e3 : (u.getD ↑m - l.getD 0).toNat = q - p := by omega
      have e4 : (l.getD 0).toNat = p := by omega
      rcases hv with hv | ⟨hm0, ad, hv⟩
      . rw [hv] at key
        refine key ?_ (zcY hu (hp.ti _ _ hei) _ m cap _ _ p q h3 h4 hcap (ope h1 hl') (oph h2 hh') w)
        simp only [RC, e3, e4]
        refine ⟨by omega, cap - p, by omega, by omega, (fun hu => by have := hfix hu; omega), ?_⟩
        by_cases hcp : cap = p
        . right; refine ⟨by omega, _, by rw [show q - p = 0 by omega]⟩
        . left; simp [if_neg hcp, zaT, e1, hsz, Nat.add_mul]
      . rw [hv] at key
        subst hm0
        refine key ?_ (zcY hu (hp.ti _ _ hei) ad 0 cap _ _ p q h3 h4 hcap (ope h1 hl') (oph h2 hh') w)
        simp only [RC, e3, e4]
        exact ⟨by omega, cap - p, by omega, by omega, (fun hu => by have := hfix hu; omega), .inr ⟨by omega, _, by rw [show q - p = 0 by omega]⟩⟩
    . cases hi
  . rename_i id m cc
    obtain ⟨hcap, hmax, hlen, hv⟩ := hv
    split at hi
    . rename_i rw' n' ty e ll hg
      split at hi
      . obtain ⟨hc1, hc2⟩ := zaa hi
        obtain ⟨et, ei, hu, hei, hsz, _⟩ := zcl hp hc1
        simp only [oi1, pi1, Bool.and_eq_true] at hc2
        obtain ⟨⟨hgd, hc0⟩, rfl⟩ := hc2
        obtain ⟨q, h2, h4⟩ := zpE hgd
        have hc0 : 0 < cc := by simpa [ltN] using hc0
        have e3 : (u.getD ↑m).toNat = q := by omega
        rw [hv] at key
        refine key ?_ (zoi hu (hp.ti _ _ hei) _ m cc _ _ 0 q (Nat.zero_le _) h4 (ope (n := none) rfl hl') (oph h2 hh') w)
        simp only [RC, e3]
        refine ⟨h4, hmax, hlen, ?_⟩
        have hne : cc ≠ 0 := by omega
        simp [hne, zaT]
      . cases hi
    . cases hi
  . rename_i e ll
    obtain ⟨hc1, hc2⟩ := zaa hi
    obtain ⟨et, ei, hu, hei, hsz, _⟩ := zcl hp hc1
    simp only [oi1, pi1] at hc2
    obtain ⟨hgd, rfl⟩ := hc2
    obtain ⟨p, q, h1, h2, h3, h4⟩ := zeC hgd
    have e3 : (u.getD ↑ll.length - l.getD 0).toNat = q - p := by omega
    have e4 : (l.getD 0).toNat = p := by omega
    have hv : Holds X.w0 X.ok (.ro e ll) (a.eval x) := hv
    generalize a.eval x = vx at hv key
    have hlen2 : ((ll.drop p).take (q - p)).length = q - p := by simp; omega
    cases hv with
    | sc h => cases h
    | ro f g1 g2 g3 g4 g5 =>
      rename_i b off cap
      refine key ?_ (zcY hu (hp.ti _ _ hei) _ ll.length cap _ _ p q h3 h4 g1 (ope h1 hl') (oph h2 hh') w)
      rw [e3, e4]
      show Holds X.w0 X.ok _ _
      by_cases hcp : cap = p
      . have : q - p = 0 := by omega
        rw [this, List.take_zero]
        exact Holds.emp
      . rw [if_neg hcp]
        simp only [Option.map_some, zaT, hsz]
        have := Holds.ro (w := X.w0) (ok := X.ok) (e := e) (l := (ll.drop p).take (q - p)) (b := b) (off := off + p * e.size) (cap := cap - p) (fun j => f (p * e.size + j)) (by rw [hlen2]; omega) (by omega) g3
          (fun j c hc => by
            rw [zbw, zcE, List.getElem?_take, List.getElem?_drop] at hc
            split at hc
            . rw [Nat.add_assoc]; exact g4 _ c hc
            . cases hc)
          (fun j c hc => by
            rw [zbw, zcE, List.getElem?_take, List.getElem?_drop] at hc
            split at hc
            . exact g5 _ c hc
            . cases hc)
        rwa [hlen2] at this
    | @emp _ ad cap =>
      simp only [List.length_nil, Nat.le_zero_eq] at h4
      subst h4
      have : p = 0 := by omega
      subst this
      refine key ?_ (zcY hu (hp.ti _ _ hei) ad 0 cap _ _ 0 0 (Nat.le_refl _) (Nat.le_refl _) (Nat.zero_le _) (ope h1 hl') (oph h2 hh') w)
      rw [e3, e4]
      exact Holds.emp
  . rename_i id
    obtain ⟨hi1, hi2, hv⟩ := hv
    split at hi
    . rename_i m e sz by' z y ht hg
      cases hcb : (y.o.isVec X.pd e && (Nat.beq y.n m && (Nat.ble m 4294967296 && !y.row))) with
      | false => rw [hcb] at hi; exact lit id 0 hi hi1 hi2 hv
      | true =>
      rw [hcb] at hi
      have hc1 := hcb
      have hc2 := hi
      simp only [cond_true, oi1, pi1] at hc2
      obtain ⟨hgd, rfl⟩ := hc2
      obtain ⟨p, q, h1, h2, h3, h4⟩ := zeC hgd
      simp only [Bool.and_eq_true, Bool.not_eq_true'] at hc1
      obtain ⟨hb1, hb2, hb4, hb3⟩ := hc1
      have e0 := Nat.beq_true hb2
      have hu := (hp.ti _ _ ht).kind.1
      have hro := h.ob _ _ hg
      unfold O.isVec at hb1
      split at hb1
      . rename_i f ll hf
        obtain ⟨ei, hei, hsz, _⟩ := zbT hp hb1
        have e1 := hro.sz
        have e2 := hro.len
        rw [hf] at e1 e2
        simp only [O.sz, O.len] at e1 e2
        have hl := fun h0 => hro.nl hb3 h0 f ll hf
        have e3 : (u.getD ↑m - l.getD 0).toNat = q - p := by omega
        have e4 : (l.getD 0).toNat = p := by omega
        rw [hv] at key
        refine key ?_ (zfL hu (hp.ti _ _ hei) _ _ _ p q h3 h4 (ope h1 hl') (oph h2 hh') w)
        simp only [RC, e3, e4]
        have hmm : m <= maxLen := by
          have : m <= 4294967296 := by simpa [Nat.ble_eq] using hb4
          simp only [maxLen]; omega
        refine ⟨by omega, m - p, by omega, by omega, (fun _ => by omega), ?_⟩
        by_cases hcp : m = p
        . right; refine ⟨by omega, _, by rw [show q - p = 0 by omega]⟩
        . left; simp [if_neg hcp, zaT, e1, hsz]
      . cases hb1
    . cases hi
  . rename_i id sub _
    obtain ⟨hi1, hi2, hv⟩ := hv
    exact lit id sub hi hi1 hi2 hv
  . cases hi
end
section
variable {X : Ctx} {ρ : Nat -> RI} {s : St} {a : Act} {w : World}
theorem zdl {o : Oper} (x : Operand) (ho : o.op = .nilCheck x) {c : C} (hx : X.pd.ev o.type s x = .u (.c c)) (hc : (∃ id i sub, c = .ptr id i sub) \/ (∃ e l i sub, c = .rop e l i sub) \/ ∃ l i sub, c = .rtp l i sub) {rd : List Nat} :
    Does X o s ⟨o.dst, .u (.c c), [], [], [], rd⟩ := by
  intro ρ a w Q h _
  have hv := zck h o.type x
  rw [hx] at hv
  rcases hc with ⟨id, i, sub, rfl⟩ | ⟨e, l, i, sub, rfl⟩ | ⟨l, i, sub, rfl⟩
  . obtain ⟨h1, h2, h3⟩ := hv
    refine zaW h (x := a.eval x) ?_ (show RC X ρ (.ptr id i sub) _ from ⟨h1, h2, h3⟩)
    simp [execOp, ho, h3]
  . have hv' := hv
    obtain ⟨h1, h2, b, off, h3, h4⟩ := hv
    refine zaW h (x := a.eval x) ?_ (show RC X ρ (.rop e l i sub) _ from hv')
    simp [execOp, ho, h3]
  . have hv' := hv
    obtain ⟨h1, h2, b, off, h3, h4⟩ := hv
    refine zaW h (x := a.eval x) ?_ (show RC X ρ (.rtp l i sub) _ from hv')
    simp [execOp, ho, h3]
theorem zgE (h : Sim X ρ s a w) {c : C} {e : El} {l : List e.T} {v : Value} (hl : s.list c = some ⟨e, l⟩) (hv : RC X ρ c v) :
    (∃ r, c = .str r) \/ (l = [] /\ ∃ ad cap, v = .slice ad 0 cap) \/ ∃ b off cap vs, v = .slice (some ⟨b, off, none⟩) l.length cap /\ RCs X ρ (flat e l) vs /\ (∀ j u, vs[j]? = some u -> w.cell? ⟨b, off + j, none⟩ = some u) := by
  unfold St.list at hl
  split at hl
  . rename_i id
    right
    split at hl
    . rename_i n ty e' l' hg
      cases hl
      have hro := h.ob _ _ hg
      have e1 := hro.sz
      simp only [O.sz] at e1
      obtain ⟨hv, _⟩ := hv
      rcases zb4 hro with ⟨h2, rfl⟩ | ⟨cap, h2, h3, h4⟩
      . left; exact ⟨rfl, none, 0, by rw [hv, h2]⟩
      . right
        by_cases hl0 : (flat e l).length = 0
        . refine ⟨_, _, cap, [], by rw [hv, h2], by rw [List.eq_nil_of_length_eq_zero hl0]; trivial, by simp⟩
        . obtain ⟨cs, hc1, hc2, hc3⟩ := hro.cell (o := 0) (n := (flat e l).length) (by simp [O.cells]) (by omega)
          refine ⟨_, _, cap, cs, by rw [hv, h2], by simpa [O.cells] using hc1, by simpa using hc3⟩
    . cases hl
  . rename_i id i n
    right
    obtain ⟨hlen, cap, hcap, hmax, _, hv⟩ := hv
    split at hl
    . rename_i rw' n' ty e' l' hg
      cases hl
      have hro := h.ob _ _ hg
      have e1 := hro.sz
      have e2 := hro.len
      simp only [O.sz, O.len] at e1 e2
      have hll : ((l'.drop i).take n).length = n := by simp; omega
      rcases hv with hv | ⟨hn, ad, hv⟩
      . right
        by_cases hl0 : n = 0
        . refine ⟨_, _, cap, [], by rw [hv, hll], by rw [zbw, hl0]; simp [RCs], by simp⟩
        . have h5 : i * e.size + n * e.size <= (flat e l').length := by rw [zab, ← Nat.add_mul]; exact Nat.mul_le_mul_right _ (by omega)
          obtain ⟨cs, hc1, hc2, hc3⟩ := hro.cell (o := i * e.size) (n := n * e.size) h5 (Nat.mul_pos (by omega) (zaK e))
          refine ⟨_, _, cap, cs, by rw [hv, hll], by rw [zbw, zcE]; exact hc1, by rw [e1]; exact hc3⟩
      . left
        subst hn
        exact ⟨by simp, ad, cap, hv⟩
    . cases hl
  . rename_i id i n cc
    right
    obtain ⟨hcap, hmax, hlen, hv⟩ := hv
    split at hl
    . rename_i rw' n' ty e' l' hg
      cases hl
      have hro := h.ob _ _ hg
      have e1 := hro.sz
      have e2 := hro.len
      simp only [O.sz, O.len] at e1 e2
      have hll : ((l'.drop i).take n).length = n := by simp; omega
      right
      by_cases hl0 : n = 0
      . refine ⟨_, _, cc, [], by rw [hv, hll], by rw [zbw, hl0]; simp [RCs], by simp⟩
      . have h5 : i * e.size + n * e.size <= (flat e l').length := by rw [zab, ← Nat.add_mul]; exact Nat.mul_le_mul_right _ (by omega)
        obtain ⟨cs, hc1, hc2, hc3⟩ := hro.cell (o := i * e.size) (n := n * e.size) h5 (Nat.mul_pos (by omega) (zaK e))
        refine ⟨_, _, cc, cs, by rw [hv, hll], by rw [zbw, zcE]; exact hc1, by rw [e1]; exact hc3⟩
    . cases hl
  . rename_i e' l'
    cases hl
    right
    have hv : Holds X.w0 X.ok (.ro e l) v := hv
    cases hv with
    | sc h => cases h
    | ro f g1 g2 g3 g4 g5 =>
      rename_i b off cap
      obtain ⟨cs, hc1, hc2, hc3⟩ := znj (ρ := ρ) h.fr (o := 0) (n := (flat e l).length) g3 g4 g5 (by simp)
      right
      refine ⟨b, off, cap, cs, rfl, by simpa using hc1, by simpa using hc3⟩
    | @emp _ ad cap => exact .inl ⟨rfl, ad, cap, rfl⟩
  . rename_i r
    exact .inl ⟨r, rfl⟩
  . cases hl
theorem zpG {c : C} {n : Int} (h : lenC s c = some n) : (∃ l, c = .str l /\ n = l.length) \/ (∃ id i m, c = .sl id i m /\ n = m) \/ (∃ e l, s.list c = some ⟨e, l⟩ /\ n = l.length) \/ (∃ m, c = .len m /\ n = m) \/ (∃ l, c = .rt l /\ n = l.length) \/ (∃ id off e m, c = .asl id off e m /\ n = m) \/ (∃ id i m cc, c = .slc id i m cc /\ n = m) := by
  unfold lenC at h
  split at h
  . right; right; left
    split at h
    . rename_i hg; cases h; exact ⟨_, _, by simp [St.list, hg], rfl⟩
    . cases h
  . cases h; exact .inr (.inl ⟨_, _, _, rfl, rfl⟩)
  . cases h; exact .inr (.inr (.inr (.inr (.inr (.inr ⟨_, _, _, _, rfl, rfl⟩)))))
  . cases h; exact .inr (.inr (.inl ⟨_, _, rfl, rfl⟩))
  . cases h; exact .inl ⟨_, rfl, rfl⟩
  . cases h; exact .inr (.inr (.inr (.inl ⟨_, rfl, rfl⟩)))
  . cases h; exact .inr (.inr (.inr (.inr (.inl ⟨_, rfl, rfl⟩))))
  . cases h; exact .inr (.inr (.inr (.inr (.inr (.inl ⟨_, _, _, _, rfl, rfl⟩)))))
  . cases h
theorem znn {c : List Tn} {v : Value} (hv : RC X ρ (.rt c) v) : ∃ ad cap, v = .slice ad c.length cap := by
  have hv : Holds X.w0 X.ok (.rt c) v := hv
  cases hv with
  | sc h => cases h
  | rt => exact ⟨_, _, rfl⟩
  | rtemp => exact ⟨_, _, rfl⟩
theorem zwv (h : Sim X ρ s a w) {c : C} {n : Int} {v : Value} (hn : lenC s c = some n) (hv : RC X ρ c v) : (∃ ad m cap, v = .slice ad m cap /\ n = m) \/ ∃ b : ByteArray, v = .string b /\ n = b.size := by
  rcases zpG hn with ⟨l, rfl, rfl⟩ | ⟨id, i, m, rfl, rfl⟩ | ⟨e, l, hl, rfl⟩ | ⟨m, rfl, rfl⟩ | ⟨l, rfl, rfl⟩ | ⟨id, off, e, m, rfl, rfl⟩ | ⟨id, i, m, cc, rfl, rfl⟩
  . right
    have := zap (X := X) (ρ := ρ) (c := .str l) rfl hv
    exact ⟨_, this, by simp [ByteArray.size]⟩
  . left
    obtain ⟨hlen, cap, hcap, hmax, _, rfl | ⟨rfl, ad, rfl⟩⟩ := hv
    . exact ⟨_, _, _, rfl, rfl⟩
    . exact ⟨_, _, _, rfl, rfl⟩
  . rcases zgE h hl hv with ⟨r, rfl⟩ | ⟨rfl, ad, cap, rfl⟩ | ⟨b, off, cap, vs, rfl, _⟩
    . right
      have := zap (X := X) (ρ := ρ) (c := .str r) rfl hv
      refine ⟨_, this, ?_⟩
      simp only [St.list, oi1] at hl
      cases hl
      simp [ByteArray.size]
      rfl
    . left; exact ⟨_, _, _, rfl, rfl⟩
    . left; exact ⟨_, _, _, rfl, rfl⟩
  . left
    obtain ⟨ad, cap, rfl⟩ := hv
    exact ⟨_, _, _, rfl, rfl⟩
  . left
    obtain ⟨ad, cap, rfl⟩ := znn hv
    exact ⟨_, _, _, rfl, rfl⟩
  . left
    obtain ⟨_, _, _, rfl⟩ := hv
    exact ⟨_, _, _, rfl, rfl⟩
  . left
    obtain ⟨_, _, _, rfl⟩ := hv
    exact ⟨_, _, _, rfl, rfl⟩
theorem zno {o : Oper} (hp : PDok X.P X.pd) (x : Operand) (t : TypeId) (ho : o.op = .call ⟨.builtin .len, #[x], #[t]⟩) {c : C} {n : Int} (hx : (X.pd.ev t s x).c? = some c) (hn : lenC s c = some n)
    (ht : (∃ et, X.P.underlying t = some (.slice et)) \/ X.P.underlying t = some .string) {rd : List Nat} (hk : (∃ l, c = .str l) ↔ X.P.underlying t = some .string) : Does X o s ⟨o.dst, .u (.c (.int n)), [], [], [], rd⟩ := by
  intro ρ a w Q h _
  have hv := ev_c h hx
  refine zaW h (x := .int .i64 n) ?_ (show RC X ρ (.int n) _ from za0 rfl)
  rcases zwv h hn hv with ⟨ad, m, cap, hv2, rfl⟩ | ⟨b, hv2, rfl⟩
  . rcases ht with ⟨et, ht⟩ | ht
    . simp [execOp, ho, resolve, invoke, builtin, Builtin.len_, run_underlying ht, hv2, goInt]
    . exfalso
      obtain ⟨l, rfl⟩ := hk.2 ht
      have := zap (X := X) (ρ := ρ) (c := .str l) rfl hv
      rw [this] at hv2; cases hv2
  . rcases ht with ⟨et, ht⟩ | ht
    . exfalso
      have : ∃ l, c = .str l := by
        cases c with
        | str l => exact ⟨l, rfl⟩
        | row id => obtain ⟨_, a, n, c, h⟩ := hv; rw [hv2] at h; cases h
        | sl id i m => obtain ⟨_, cap, _, _, _, h | ⟨_, ad, h⟩⟩ := hv <;> rw [hv2] at h <;> cases h
        | ro e l =>
          have hv : Holds X.w0 X.ok (.ro e l) _ := hv
          rw [hv2] at hv
          cases hv with
          | sc h => cases h
        | len m => obtain ⟨ad, cap, h⟩ := hv; rw [hv2] at h; cases h
        | rt l => obtain ⟨ad, cap, h⟩ := znn hv; rw [hv2] at h; cases h
        | asl id off e m => obtain ⟨_, _, _, h⟩ := hv; rw [hv2] at h; cases h
        | slc id i m cc => obtain ⟨_, _, _, h⟩ := hv; rw [hv2] at h; cases h
        | _ => cases hn
      rw [hk.1 this] at ht; cases ht
    . simp [execOp, ho, resolve, invoke, builtin, Builtin.len_, run_underlying ht, hv2, goInt]
theorem zlK {o : Oper} (x : Operand) (t : TypeId) (n : Nat) (e : TypeId) (ho : o.op = .call ⟨.builtin .len, #[x], #[t]⟩) (ht : X.P.underlying t = some (.array n e)) {rd : List Nat} : Does X o s ⟨o.dst, .u (.c (.int n)), [], [], [], rd⟩ := by
  intro ρ a w Q h _
  refine zaW h (x := .int .i64 n) ?_ (show RC X ρ (.int n) _ from za0 rfl)
  simp [execOp, ho, resolve, invoke, builtin, Builtin.len_, run_underlying ht, goInt]
theorem zkf {o : Oper} (x y : Operand) (ts : Array TypeId) (b : Builtin) (ho : o.op = .call ⟨.builtin b, #[x, y], ts⟩) {m n r : Int} (hx : (X.pd.ev 3 s x).c? = some (.int m)) (hy : (X.pd.ev 3 s y).c? = some (.int n))
    (hb : (b = .max /\ r = mxI m n) \/ (b = .min /\ r = mnI m n)) {rd : List Nat} : Does X o s ⟨o.dst, .u (.c (.int r)), [], [], [], rd⟩ := by
  intro ρ a w Q h _
  have e1 := zap (X := X) (ρ := ρ) (c := .int m) rfl (ev_c h hx)
  have e2 := zap (X := X) (ρ := ρ) (c := .int n) rfl (ev_c h hy)
  refine zaW h (x := .int .i64 r) ?_ (show RC X ρ (.int r) _ from za0 rfl)
  rcases hb with ⟨rfl, rfl⟩ | ⟨rfl, rfl⟩
  . simp [execOp, ho, resolve, invoke, builtin, Builtin.max_, Builtin.max2, e1, e2, mxI, ltI]
  . simp [execOp, ho, resolve, invoke, builtin, Builtin.min_, Builtin.min2, e1, e2, mnI, ltI]
theorem zpH {o : Oper} (x y z : Operand) (ts : Array TypeId) (ho : o.op = .call ⟨.builtin .min, #[x, y, z], ts⟩) {m n k : Int} (hx : (X.pd.ev 3 s x).c? = some (.int m)) (hy : (X.pd.ev 3 s y).c? = some (.int n))
    (hz : (X.pd.ev 3 s z).c? = some (.int k)) {rd : List Nat} : Does X o s ⟨o.dst, .u (.c (.int (mnI (mnI m n) k))), [], [], [], rd⟩ := by
  intro ρ a w Q h _
  have e1 := zap (X := X) (ρ := ρ) (c := .int m) rfl (ev_c h hx)
  have e2 := zap (X := X) (ρ := ρ) (c := .int n) rfl (ev_c h hy)
  have e3 := zap (X := X) (ρ := ρ) (c := .int k) rfl (ev_c h hz)
  refine zaW h (x := .int .i64 (mnI (mnI m n) k)) ?_ (show RC X ρ (.int _) _ from za0 rfl)
  simp [execOp, ho, resolve, invoke, builtin, Builtin.min_, Builtin.min2, e1, e2, e3, mnI, ltI]
  by_cases hh : n < m <;> simp [hh] <;> (split <;> simp_all)
end
section
variable {X : Ctx} {ρ : Nat -> RI} {s : St} {a : Act} {w : World}
set_option maxHeartbeats 1000000 in
theorem zgF {P : Program} {w : World} {t u ty e : TypeId} {i : TypeInfo} {z : Value} {x : Value} {m : Nat} {news : List Value} {n cap0 : Nat} {base : Option Addr} {xs : List Value}
    (ht : P.underlying t = some (.slice e)) (hu : P.underlying u = some (.slice e) \/ P.underlying u = some .string) (hi : P.info? e = some i) (hz : i.zero = some z) (hzs : z.cells.size = i.size)
    (hm : ∀ w, (Builtin.lenOf x).run P w = .ok m w) (hf : ∀ w', (∀ a, w'.cell? a = w.cell? a) -> (Builtin.firstCells i.size m x).run P w' = .ok news.toArray w') (hl : news.length = m * i.size)
    (hb : (n + m) * i.bytes <= 140737488355328) (hb0 : 0 < i.bytes) (hno : ¬ (n + m <= cap0)) (hxl : xs.length = n * i.size) (hold : ∀ w', (∀ a, w'.cell? a = w.cell? a) -> (Builtin.firstCells i.size n (.slice base n cap0)).run P w' = .ok xs.toArray w') :
    ∃ cap cur, (Builtin.append_ #[t, u] ty #[.slice base n cap0, x]).run P w = .ok (.slice (some ⟨w.heap.size, 0, none⟩) (n + m) cap) (w.drew.alloc (.cells cur e)) /\ n + m <= cap /\ cap <= maxLen /\ cur.size = cap * i.size /\ cur.toList.take ((n + m) * i.size) = xs ++ news := by
  have hnm : n + m <= 140737488355328 := Nat.le_trans (Nat.le_mul_of_pos_right _ hb0) hb
  obtain ⟨cap, cur, hc1, hc2, hc3, hc4⟩ : ∃ cap cur, grownCap w (n + m) cap0 e = cap /\ n + m <= cap /\ cap <= maxLen /\ cur = xs.toArray ++ news.toArray ++ Builtin.zeroCells z.cells (cap - (n + m)) :=
    ⟨_, _, rfl, grownCap_ge _ _ _ _, grownCap_le_maxLen _ _ _ _ (by simp only [maxLen]; omega), rfl⟩
  have hfit : ¬ (Builtin.nextslicecap (n + m) cap0 * i.bytes > 2 ^ 48) := by
    have := growslice_fits (need := n + m) (old := cap0) (bytes := i.bytes) (by omega) hb
    omega
  have h63 : ¬ (IntKind.i64.max < (n : Int) + (m : Int)) := by
    simp only [show IntKind.i64.max = 9223372036854775807 from rfl]; omega
  refine ⟨cap, cur, ?_, hc2, hc3, ?_, ?_⟩
  . subst hc4
    have hm' := hm w
    have hf' := hf w.drew (fun _ => rfl)
    have hold' := hold w.drew (fun _ => rfl)
    have hfit' : ¬ (281474976710656 < Builtin.nextslicecap (n + m) cap0 * i.bytes) := by omega
    have hb1 : i.bytes ≠ 0 := by omega
    have hc1' : (Question.appendCap (n + m) cap0 e).cut (w.tape w.drawn (Question.appendCap (n + m) cap0 e)) = cap := hc1
    rcases hu with hu | hu <;>
      simp [Builtin.append_, run_underlying ht, run_underlying hu, sizeOf, typeInfo, zeroValue, hi, hz, hm', hno, h63, hfit', hb1, Question.forced, newRow, hold', hf', hc1'] <;>
      (congr 2; apply Array.ext'; simp)
  . rw [hc4]
    simp only [Array.size_append, List.size_toArray, size_zeroCells, hzs, hxl, hl, ← Nat.add_mul]
    congr 1; omega
  . rw [hc4]
    simp only [Array.toList_append, List.append_assoc]
    rw [← List.append_assoc, show (n + m) * i.size = (xs ++ news).length from by rw [List.length_append, hxl, hl, Nat.add_mul]]
    exact List.take_left
set_option maxHeartbeats 1000000 in
theorem zhH {P : Program} {w : World} {t u ty e : TypeId} {i : TypeInfo} {z : Value} {x : Value} {m : Nat} {news : List Value} {val : Value} {n : Nat} {xs : List Value}
    (ht : P.underlying t = some (.slice e)) (hu : P.underlying u = some (.slice e) \/ P.underlying u = some .string) (hi : P.info? e = some i) (hz : i.zero = some z) (hzs : z.cells.size = i.size)
    (hm : ∀ w, (Builtin.lenOf x).run P w = .ok m w) (hf : ∀ w', (∀ a, w'.cell? a = w.cell? a) -> (Builtin.firstCells i.size m x).run P w' = .ok news.toArray w') (hl : news.length = m * i.size) (h1 : ∀ u ∈ news, u.oneCell' = true)
    (hb : (n + m) * i.bytes <= 140737488355328) (hb0 : 0 < i.bytes)
    (hval : (val = .slice none 0 0 /\ n = 0 /\ xs = []) \/ ∃ g cap cur, val = .slice (some ⟨g, 0, none⟩) n cap /\ w.heap[g]? = some (.cells cur e (0, 0)) /\ n <= cap /\ cap <= maxLen /\ cur.size = cap * i.size /\ cur.toList.take (n * i.size) = xs) :
    ∃ val' w', (Builtin.append_ #[t, u] ty #[val, x]).run P w = .ok val' w' /\
      ((val' = .slice none 0 0 /\ n + m = 0 /\ w' = w) \/
       ∃ g cap cur, val' = .slice (some ⟨g, 0, none⟩) (n + m) cap /\ w'.heap[g]? = some (.cells cur e (0, 0)) /\ n + m <= cap /\ cap <= maxLen /\ cur.size = cap * i.size /\ cur.toList.take ((n + m) * i.size) = xs ++ news /\
         w'.os = w.os /\ w'.tape = w.tape /\ w'.output = w.output /\ w.heap.size <= w'.heap.size /\
         ((val.ownBlock = some g /\ ∀ k, k ≠ g -> w'.heap[k]? = w.heap[k]?) \/ (g = w.heap.size /\ ∀ k, k < w.heap.size -> w'.heap[k]? = w.heap[k]?))) := by
  have hzr : ∀ w, (do pure ((← underlying u) matches .int _) : Sem Bool).run P w = .ok false w := fun w => by
    rcases hu with hu | hu <;> simp [run_underlying hu]
  have hnm : n + m <= 140737488355328 := Nat.le_trans (Nat.le_mul_of_pos_right _ hb0) hb
  have grown : ∀ (old : Nat), ∃ cap cur, grownCap w (n + m) old e = cap /\ n + m <= cap /\ cap <= maxLen /\ cur = xs.toArray ++ news.toArray ++ Builtin.zeroCells z.cells (cap - (n + m)) := fun old =>
    ⟨_, _, rfl, grownCap_ge _ _ _ _, grownCap_le_maxLen _ _ _ _ (by simp only [maxLen]; omega), rfl⟩
  have grow : ∀ (base : Option Addr) (cap0 : Nat), val = .slice base n cap0 -> ¬ (n + m <= cap0) -> xs.length = n * i.size -> (∀ w', (∀ a, w'.cell? a = w.cell? a) -> (Builtin.firstCells i.size n val).run P w' = .ok xs.toArray w') ->
      ∃ cap cur, (Builtin.append_ #[t, u] ty #[val, x]).run P w = .ok (.slice (some ⟨w.heap.size, 0, none⟩) (n + m) cap) (w.drew.alloc (.cells cur e)) /\ n + m <= cap /\ cap <= maxLen /\ cur.size = cap * i.size /\ cur.toList.take ((n + m) * i.size) = xs ++ news := fun base cap0 hv hno hxl hold => by
    obtain ⟨cap, cur, hc1, hc2, hc3, hc4⟩ := grown cap0
    have hfit : ¬ (Builtin.nextslicecap (n + m) cap0 * i.bytes > 2 ^ 48) := by
      have := growslice_fits (need := n + m) (old := cap0) (bytes := i.bytes) (by omega) hb
      omega
    have h63 : ¬ (IntKind.i64.max < (n : Int) + (m : Int)) := by
      simp only [show IntKind.i64.max = 9223372036854775807 from rfl]; omega
    refine ⟨cap, cur, ?_, hc2, hc3, ?_, ?_⟩
    . subst hc4
      have hm' := hm w
      have hf' := hf w.drew (fun _ => rfl)
      have hold' := hold w.drew (fun _ => rfl)
      rw [hv] at hold'
      have hfit' : ¬ (281474976710656 < Builtin.nextslicecap (n + m) cap0 * i.bytes) := by omega
      have hb1 : i.bytes ≠ 0 := by omega
      rw [hv]
      have hc1' : (Question.appendCap (n + m) cap0 e).cut (w.tape w.drawn (Question.appendCap (n + m) cap0 e)) = cap := hc1
      rcases hu with hu | hu <;>
        simp [Builtin.append_, run_underlying ht, run_underlying hu, sizeOf, typeInfo, zeroValue, hi, hz, hm', hno, h63, hfit', hb1, Question.forced, newRow, hold', hf', hc1'] <;>
        (congr 2; apply Array.ext'; simp)
    . rw [hc4]
      simp only [Array.size_append, List.size_toArray, size_zeroCells, hzs, hxl, hl, ← Nat.add_mul]
      congr 1; omega
    . rw [hc4]
      simp only [Array.toList_append, List.append_assoc]
      rw [← List.append_assoc, show (n + m) * i.size = (xs ++ news).length from by rw [List.length_append, hxl, hl, Nat.add_mul]]
      exact List.take_left
  rcases hval with ⟨rfl, rfl, rfl⟩ | ⟨g, cap, cur, rfl, hg, hnc, hcm, hcs, htk⟩
  . by_cases hm0 : m = 0
    . subst hm0
      have hn0 : news = [] := List.eq_nil_of_length_eq_zero (by simpa using hl)
      subst hn0
      refine ⟨.slice none 0 0, w, ?_, .inl ⟨rfl, rfl, rfl⟩⟩
      have hm' := hm w
      have hf' := hf w (fun _ => rfl)
      rcases hu with hu | hu <;>
        simp [Builtin.append_, run_underlying ht, run_underlying hu, sizeOf, typeInfo, zeroValue, hi, hz, hm', hf']
    . obtain ⟨cap, cur, h1, h2, h3, h4, h5⟩ := grow none 0 rfl (by omega) (by simp) (fun w' _ => by simp [Builtin.firstCells])
      refine ⟨_, _, h1, .inr ⟨w.heap.size, cap, cur, rfl, heap_alloc_new w.drew _, h2, h3, h4, h5, rfl, rfl, rfl, by simp, .inr ⟨rfl, fun k hk => heap_alloc_old w.drew _ k hk⟩⟩⟩
  . have hxl : xs.length = n * i.size := by rw [← htk]; simp; rw [hcs]; exact Nat.min_eq_left (Nat.mul_le_mul_right _ hnc)
    by_cases hroom : n + m <= cap
    . have hfit : n * i.size + news.length <= cur.size := by rw [hl, hcs, ← Nat.add_mul]; exact Nat.mul_le_mul_right _ hroom
      have hst := run_storeCells_at P g (n * i.size) e news 0 cur w hg (by simpa using hfit) h1
      simp only [Nat.add_zero] at hst
      have hm' := hm w
      have hf' := hf w (fun _ => rfl)
      refine ⟨.slice (some ⟨g, 0, none⟩) (n + m) cap, w.setRow g (cur.toList.take (n * i.size) ++ news ++ cur.toList.drop (n * i.size + news.length)).toArray, ?_, .inr ⟨g, cap, _, rfl, setRow_heap w g cur _ e _ hg, hroom, hcm, ?_, ?_, rfl, rfl, rfl, by simp, .inl ⟨rfl, fun k hk => setRow_other w g k _ hk⟩⟩⟩
      . rcases hu with hu | hu <;>
          simp [Builtin.append_, run_underlying ht, run_underlying hu, sizeOf, typeInfo, zeroValue, hi, hz, hm', hf', hroom, zaT, hst]
      . simp only [List.size_toArray, List.length_append, List.length_take, List.length_drop, Array.length_toList]
        omega
      . rw [htk, show (n + m) * i.size = (xs ++ news).length from by rw [List.length_append, hxl, hl, Nat.add_mul]]
        exact List.take_left
    . have holds : ∀ j u, xs[j]? = some u -> w.cell? ((⟨g, 0, none⟩ : Addr).add j) = some u := fun j u hu => by
        rw [zaT, Nat.zero_add, cell_of_row w g j cur e (0, 0) hg]
        rw [← htk, List.getElem?_take] at hu
        split at hu
        . simpa using hu
        . cases hu
      obtain ⟨cap', cur', h1, h2, h3, h4, h5⟩ := grow (some ⟨g, 0, none⟩) cap rfl hroom hxl (fun w' hw' => by
        have := run_firstCells_some (P := P) w' i.size n ⟨g, 0, none⟩ n cap xs hxl (fun j u hu => by rw [hw']; exact holds j u hu)
        exact this)
      exact ⟨_, _, h1, .inr ⟨w.heap.size, cap', cur', rfl, heap_alloc_new w.drew _, h2, h3, h4, h5, rfl, rfl, rfl, by simp, .inr ⟨rfl, fun k hk => heap_alloc_old w.drew _ k hk⟩⟩⟩
theorem zlL {id n : Nat} (hm : s.men n = false) : St.men ⟨s.tm, zbL id s.ob⟩ n = false := by
  have hdel : ∀ l : List (Nat × Ob), zbr n l = false -> zbr n (zbL id l) = false := fun l => by
    induction l with
    | nil => intro h; exact h
    | cons p l ih =>
      obtain ⟨j, x⟩ := p
      intro hml
      simp only [zbr] at hml
      cases h1 : Nat.beq j n with
      | true => rw [h1] at hml; cases hml
      | false =>
        cases h2 : x.o.men n with
        | true => rw [h1, h2] at hml; cases hml
        | false =>
          rw [h1, h2] at hml
          simp only [zbL]
          cases h3 : Nat.beq j id with
          | true => exact ih hml
          | false => simp only [cond_false, zbr, h1, h2]; exact ih hml
  unfold St.men at *
  cases h1 : zb3 n s.tm with
  | true => rw [h1] at hm; cases hm
  | false => rw [h1] at hm; simp only [cond_false] at hm ⊢; exact hdel _ hm
theorem zgG (l : List UInt8) : RCs X ρ (flat .u8 l) (l.map fun b => Value.int .u8 b.toNat) := by
  induction l with
  | nil => trivial
  | cons x l ih => exact ⟨za0 rfl, ih⟩
theorem zvs {P : Program} (h : Sim X ρ s a w) {c : C} {e : El} {l : List e.T} {v : Value} (hl : s.list c = some ⟨e, l⟩) (hv : RC X ρ c v) :
    ∃ vs, RCs X ρ (flat e l) vs /\ (∀ w, (Builtin.lenOf v).run P w = .ok l.length w) /\ ∀ w', (∀ a, w'.cell? a = w.cell? a) -> ∀ sz, sz = e.size -> (Builtin.firstCells sz l.length v).run P w' = .ok vs.toArray w' := by
  rcases zgE h hl hv with ⟨r, rfl⟩ | ⟨rfl, ad, cap, rfl⟩ | ⟨b, off, cap, vs, rfl, h2, h3⟩
  . have hv2 := zap (X := X) (ρ := ρ) (c := .str r) rfl hv
    simp only [St.list, oi1] at hl
    cases hl
    subst hv2
    refine ⟨_, zgG r, fun w => ?_, fun w' _ sz hsz => ?_⟩
    . simp [Builtin.lenOf, ByteArray.size]; rfl
    . have he : (⟨r.toArray⟩ : ByteArray).extract 0 r.length = ⟨r.toArray⟩ := by
        have : r.length = (⟨r.toArray⟩ : ByteArray).size := by simp [ByteArray.size]
        rw [this, ByteArray.extract_zero_size]
      show (Builtin.firstCells sz r.length _).run P w' = _
      simp only [Builtin.firstCells, he]
      simp
  . refine ⟨[], trivial, fun w => by simp [Builtin.lenOf], fun w' _ sz _ => ?_⟩
    cases ad <;> simp [Builtin.firstCells, loadCells, loadCellsFrom]
  . refine ⟨vs, h2, fun w => by simp [Builtin.lenOf], fun w' hw' sz hsz => ?_⟩
    have hlen := zat h2
    rw [zab] at hlen
    subst hsz
    exact run_firstCells_some (P := P) w' e.size l.length _ l.length cap vs hlen.symm (fun j u hu => by rw [zaT, hw']; exact h3 j u hu)
theorem za3 {P : Program} {pd : PD} (hp : PDok P pd) {t e : TypeId} {sz by' : Nat} {z : List C} (h : pd.ti t = some ⟨.slice e, sz, by', z⟩) : P.underlying t = some (.slice e) := (hp.ti _ _ h).kind
theorem zeD {P : Program} {pd : PD} (hp : PDok P pd) {t : TypeId} {sz by' : Nat} {z : List C} (h : pd.ti t = some ⟨.str, sz, by', z⟩) : P.underlying t = some .string := (hp.ti _ _ h).kind
theorem zlM {o : Oper} (hp : PDok X.P X.pd) (x y : Operand) (t u : TypeId) (ho : o.op = .call ⟨.builtin .append, #[x, y], #[t, u]⟩) {et : TypeId} {ei : TI} {e : El} {l l2 : List e.T} {id nid m : Nat} {c : C} {f : El} {l2' : List f.T} {rd : List Nat}
    (ht : X.P.underlying t = some (.slice et)) (hu : X.P.underlying u = some (.slice et) \/ X.P.underlying u = some .string) (hei : X.pd.ti et = some ei) (hel : X.pd.el et = some e)
    (hx : (X.pd.ev t s x).c? = some (.row id)) (hy : (X.pd.ev u s y).c? = some c) (hg : s.get id = some ⟨true, m, et, .vec e l⟩) (hc : s.list c = some ⟨f, l2'⟩) (hcast : zbK f e l2' = some l2)
    (hb0 : 0 < ei.bytes) (hb : (l.length + l2.length) * ei.bytes <= 140737488355328) :
    Does X o s ⟨o.dst, .u (.c (.row nid)), [(nid, ⟨true, m, et, .vec e (l ++ l2)⟩)], [id], [nid], rd⟩ := by
  intro ρ a w Q h hnew
  have hm := zcv hnew
  obtain ⟨hv, _⟩ := ev_c h hx
  have hvy := ev_c h hy
  obtain ⟨q, hq⟩ := zbH hcast
  subst q
  simp only at hq
  subst hq
  obtain ⟨i, z, hi1, hi2, hi3, hi4, hz, hzs⟩ := zcX hp hei hel
  obtain ⟨news, hn1, hn2, hn3⟩ := zvs (P := X.P) h hc hvy
  have hnl := zat hn1
  rw [zab] at hnl
  have hro := h.ob _ _ hg
  have e1 := hro.sz
  have e2 := hro.len
  simp only [O.sz, O.len] at e1 e2
  have hn0 := (hro.vec rfl).2
  simp only at hn0
  subst hn0
  have hcur : ∃ xs, RCs X ρ (flat f l) xs /\ (((ρ id).val = .slice none 0 0 /\ l.length = 0 /\ xs = []) \/ ∃ g cap cur, (ρ id).val = .slice (some ⟨g, 0, none⟩) l.length cap /\ w.heap[g]? = some (.cells cur et (0, 0)) /\ l.length <= cap /\ cap <= maxLen /\ cur.size = cap * i.size /\ cur.toList.take (l.length * i.size) = xs) /\
      (∀ g, (ρ id).val.ownBlock = some g -> g = (ρ id).blk) := by
    rcases hro.mem with ⟨_, h2, h3⟩ | ⟨vs, ty, cap, h1, h2, h3, h4, h5⟩
    . rcases zb4 hro with ⟨_, rfl⟩ | ⟨cap, h6, _⟩
      . exact ⟨[], trivial, .inl ⟨h2, rfl, rfl⟩, fun g hg => by rw [h2] at hg; cases hg⟩
      . rw [h2] at h6; cases h6
    . obtain ⟨h6, h7, h8, h9, h10⟩ := h5 rfl
      simp only at h6
      subst h6
      refine ⟨vs.toList.take (l.length * f.size), by simpa [O.cells, zab] using h2, .inr ⟨(ρ id).blk, cap, vs, h7, h1, h8, h9, by rw [hi2]; exact h10, by rw [hi2]⟩, fun g hg => ?_⟩
      rw [h7] at hg
      cases hg
      rfl
  obtain ⟨xs, hxs, hval, hown⟩ := hcur
  obtain ⟨val', w', hrun, hres⟩ := zhH (P := X.P) (w := w) (ty := o.type) (x := a.eval y) (val := (ρ id).val) ht hu hi1 hi4 (by rw [hzs, hi2]) (fun w => hn2 w) (fun w' hw' => hn3 w' hw' _ hi2) (by rw [hi2]; exact hnl.symm) (zfh hn1 (zdO _ _)) (by rw [hi3]; exact hb) (by rw [hi3]; exact hb0) hval
  have hexec : (execOp a.eval o).run X.P w = .ok (.value val') w' := by
    simp [execOp, ho, resolve, invoke, builtin, hv, hrun]
  have hmd : St.men ⟨s.tm, zbL id s.ob⟩ nid = false := zlL hm
  have hcells : RCs X (upd ρ nid ⟨0, val', f.size, (l ++ l2').length⟩) (flat f (l ++ l2')) (xs ++ news) := by
    rw [zdg]
    exact zcy (zdk (fun j hj => by rw [zbi] at hj; cases hj) hxs) (zdk (fun j hj => by rw [zbi] at hj; cases hj) hn1)
  have hgd : ∀ j z, St.get ⟨s.tm, zbL id s.ob⟩ j = some z -> s.get j = some z /\ j ≠ id := fun j z hz => by
    unfold St.get at *
    by_cases e : j = id
    . subst e; rw [zbO] at hz; cases hz
    . rw [zcD _ e] at hz; exact ⟨hz, e⟩
  have fin : ∀ r : RI, r.val = val' -> (∃ a n c, val' = .slice a n c) -> Sim X (upd ρ nid r) ⟨s.tm, za5 nid ⟨true, 0, et, .vec f (l ++ l2')⟩ (zbL id s.ob)⟩ a w' ->
      o.wp X.P a w (fun a' w' => ∃ ρ', Sim X ρ' ((⟨o.dst, .u (.c (.row nid)), [(nid, ⟨true, 0, et, .vec f (l ++ l2')⟩)], [id], [nid], rd⟩ : Eff).app s) a' w') Q := fun r hr hsl hs => by
    unfold Oper.wp
    rw [hexec]
    refine ⟨upd ρ nid r, ?_⟩
    cases hd : o.dst with
    | none => simpa [Eff.app, St.dels, St.puts, Act.put] using hs
    | some d =>
      have := hs.set d (v := .u (.c (.row nid))) (x := val') (show RC X _ (.row nid) _ from ⟨by rw [zac, hr], hsl⟩)
      simpa [Eff.app, St.dels, St.puts] using this
  rcases hres with ⟨rfl, hz0, rfl⟩ | ⟨g, cap, cur, rfl, hh1, hh2, hh3, hh4, hh5, hos, htape, hout, hsize, hblk⟩
  . have hll : l ++ l2' = [] := List.eq_nil_of_length_eq_zero (by rw [List.length_append]; exact hz0)
    rw [hll] at fin ⊢
    refine fin ⟨0, .slice none 0 0, f.size, 0⟩ rfl ⟨_, _, _, rfl⟩ ?_
    refine (h.del id).add nid ⟨true, 0, et, .vec f []⟩ ⟨0, .slice none 0 0, f.size, 0⟩ hmd (znl rfl rfl rfl) (fun hb => ?_)
    rcases hb with hb | hb
    . cases hb
    . rw [zac] at hb; exact absurd rfl hb
  . have hB : (ρ id).val.ownBlock = some g -> hasB ρ id ⟨true, 0, et, .vec f l⟩ := fun hg2 => .inr (by intro hn; rw [hn] at hg2; cases hg2)
    have hownB : X.w0.heap.size <= g \/ X.may g := by
      rcases hblk with ⟨hb1, _⟩ | ⟨rfl, _⟩
      . rw [hown g hb1]; exact h.own _ _ hg (hB hb1)
      . exact .inl h.fr.size
    have hdis : ∀ j z, St.get ⟨s.tm, zbL id s.ob⟩ j = some z -> hasB ρ j z -> (ρ j).blk ≠ g := fun j z hz hbz => by
      obtain ⟨hz1, hz2⟩ := hgd j z hz
      rcases hblk with ⟨hb1, _⟩ | ⟨rfl, _⟩
      . rw [hown g hb1]; exact h.inj j id z _ hz1 hg hz2 hbz (hB hb1)
      . have := h.lt hz1 hbz; omega
    have hsame : ∀ k, k < w.heap.size -> k ≠ g -> w'.heap[k]? = w.heap[k]? := fun k hk hkg => by
      rcases hblk with ⟨_, hb2⟩ | ⟨_, hb2⟩
      . exact hb2 k hkg
      . exact hb2 k hk
    have hs2 : Sim X ρ ⟨s.tm, zbL id s.ob⟩ a w' := (h.del id).world (fun j z hz hbz => hsame _ (h.lt (hgd j z hz).1 hbz) (hdis j z hz hbz))
      ⟨hos.trans h.fr.os, htape.trans h.fr.tape, hout.trans h.fr.output, Nat.le_trans h.fr.size hsize, fun k hk hmk => by
        rw [hsame k (Nat.lt_of_lt_of_le hk h.fr.size) (fun e => by subst e; rcases hownB with h1 | h1; omega; exact hmk h1)]
        exact h.fr.block k hk hmk⟩
    refine fin ⟨g, .slice (some ⟨g, 0, none⟩) (l.length + l2'.length) cap, f.size, (l ++ l2').length⟩ rfl ⟨_, _, _, rfl⟩ ?_
    refine hs2.add nid _ _ hmd ⟨by rw [zac]; rfl, by rw [zac]; rfl, (fun h => by cases h), fun _ => ⟨⟨f, _, rfl⟩, rfl⟩, .inr ⟨cur, et, cap, ?_, ?_, ?_, (fun h => by cases h), fun _ => ⟨rfl, ?_, ?_, hh3, ?_⟩⟩⟩ (fun _ => ⟨hdis, hownB⟩)
    . rw [zac]; exact hh1
    . simp only [O.cells, zab, List.length_append]
      rw [← hi2, hh5]
      exact zbQ (fun j hj => by rw [zbi] at hj; cases hj) hcells
    . simp only [O.cells, zab, List.length_append, hh4, hi2]; exact Nat.mul_le_mul_right _ hh2
    . rw [zac]; simp [O.len]
    . simpa [O.len] using hh2
    . simp only [O.sz, hh4, hi2]
theorem zkg {o : Oper} (hp : PDok X.P X.pd) (x y : Operand) (t u : TypeId) (ho : o.op = .call ⟨.builtin .append, #[x, y], #[t, u]⟩) {et ty0 : TypeId} {ei : TI} {e : El} {l l2 : List e.T} {id nid m : Nat} {c : C} {f : El} {l2' : List f.T} {rd : List Nat}
    (ht : X.P.underlying t = some (.slice et)) (hu : X.P.underlying u = some (.slice et) \/ X.P.underlying u = some .string) (hei : X.pd.ti et = some ei) (hel : X.pd.el et = some e)
    (hx : (X.pd.ev t s x).c? = some (.sl id 0 m)) (hy : (X.pd.ev u s y).c? = some c) (hg : s.get id = some ⟨false, m, ty0, .vec e l⟩) (hc : s.list c = some ⟨f, l2'⟩) (hcast : zbK f e l2' = some l2)
    (hm0 : 0 < m) (hl0 : 0 < l2.length) (hb0 : 0 < ei.bytes) (hb : (m + l2.length) * ei.bytes <= 140737488355328) :
    Does X o s ⟨o.dst, .u (.c (.row nid)), [(nid, ⟨true, 0, et, .vec e (l ++ l2)⟩)], [], [nid], rd⟩ := by
  intro ρ a w Q h hnew
  have hmn := zcv hnew
  obtain ⟨hv1, cap0, hv2, hv3, hfix, hv4⟩ := ev_c h hx
  have hvy := ev_c h hy
  obtain ⟨q, hq⟩ := zbH hcast
  subst q
  simp only at hq
  subst hq
  obtain ⟨i, z, hi1, hi2, hi3, hi4, hz, hzs⟩ := zcX hp hei hel
  obtain ⟨news, hn1, hn2, hn3⟩ := zvs (P := X.P) h hc hvy
  have hnl := zat hn1
  rw [zab] at hnl
  have hro := h.ob _ _ hg
  have e1 := hro.sz
  have e2 := hro.len
  simp only [O.sz, O.len] at e1 e2
  obtain ⟨hlm, hund⟩ := hro.n rfl (by simp only; omega) f l rfl
  simp only at hlm
  have hcap : cap0 = m := by have := hfix hund; omega
  have hav : a.eval x = .slice (some ⟨(ρ id).blk, 0 * (ρ id).sz, none⟩) m cap0 := by
    rcases hv4 with h4 | ⟨h4, _⟩
    . exact h4
    . omega
  rw [Nat.zero_mul] at hav
  obtain ⟨xs, hxs, hxl, hcell⟩ := hro.cell (o := 0) (n := m * f.size) (by simp only [O.cells, zab]; rw [hlm]; omega) (Nat.mul_pos hm0 (zaK f))
  simp only [O.cells, List.drop_zero] at hxs
  rw [List.take_of_length_le (by rw [zab, hlm]; exact Nat.le_refl _)] at hxs
  obtain ⟨cap, cur, hrun, hh2, hh3, hh4, hh5⟩ := zgF (P := X.P) (w := w) (t := t) (u := u) (ty := o.type) (x := a.eval y) (n := m) (cap0 := cap0) (base := some ⟨(ρ id).blk, 0, none⟩) (xs := xs) ht hu hi1 hi4 (by rw [hzs, hi2]) (fun w => hn2 w) (fun w' hw' => hn3 w' hw' _ hi2) (by rw [hi2]; exact hnl.symm) (by rw [hi3]; exact hb) (by rw [hi3]; exact hb0) (by omega) (by rw [hi2]; exact hxl)
    (fun w' hw' => run_firstCells_some (P := X.P) w' i.size m ⟨(ρ id).blk, 0, none⟩ m cap0 xs (by rw [hi2]; exact hxl) (fun j u hu => by rw [hw', zaT, Nat.zero_add]; have := hcell j u hu; simpa using this))
  have hexec : (execOp a.eval o).run X.P w = .ok (.value (.slice (some ⟨w.heap.size, 0, none⟩) (m + l2'.length) cap)) (w.drew.alloc (.cells cur et)) := by
    simp [execOp, ho, resolve, invoke, builtin, hav, hrun]
  have hsame : ∀ k, k < w.heap.size -> (w.drew.alloc (.cells cur et)).heap[k]? = w.heap[k]? := fun k hk => heap_alloc_old w.drew _ k hk
  have hs2 : Sim X ρ s a (w.drew.alloc (.cells cur et)) := h.world (fun j z hz hbz => hsame _ (h.lt hz hbz))
    ⟨h.fr.os, h.fr.tape, h.fr.output, Nat.le_trans h.fr.size (by simp), fun k hk hmk => by
      rw [hsame k (Nat.lt_of_lt_of_le hk h.fr.size)]; exact h.fr.block k hk hmk⟩
  have hadd := hs2.add nid ⟨true, 0, et, .vec f (l ++ l2')⟩ ⟨w.heap.size, .slice (some ⟨w.heap.size, 0, none⟩) (m + l2'.length) cap, f.size, (l ++ l2').length⟩ hmn
    ⟨by rw [zac]; rfl, by rw [zac]; rfl, (fun h => by cases h), fun _ => ⟨⟨f, _, rfl⟩, rfl⟩, .inr ⟨cur, et, cap, (by rw [zac]; exact heap_alloc_new w.drew _), (by
      simp only [O.cells, zab, List.length_append, hlm]
      rw [← hi2, hh5, zdg]
      exact zcy (zdk (fun j hj => by rw [zbi] at hj; cases hj) hxs) (zdk (fun j hj => by rw [zbi] at hj; cases hj) hn1)), (by
      simp only [O.cells, zab, List.length_append, hh4, hi2, hlm]; exact Nat.mul_le_mul_right _ hh2), (fun h => by cases h), fun _ => ⟨rfl, (by rw [zac]; simp [O.len, hlm]), (by simpa [O.len, hlm] using hh2), hh3, (by simp only [O.sz, hh4, hi2])⟩⟩⟩
    (fun _ => ⟨fun j z hz hbz => by have := h.lt hz hbz; simp only; omega, .inl h.fr.size⟩)
  unfold Oper.wp
  rw [hexec]
  refine ⟨upd ρ nid ⟨w.heap.size, .slice (some ⟨w.heap.size, 0, none⟩) (m + l2'.length) cap, f.size, (l ++ l2').length⟩, ?_⟩
  cases hd : o.dst with
  | none => simpa [Eff.app, St.dels, St.puts, Act.put] using hadd
  | some d =>
    have := hadd.set d (v := .u (.c (.row nid))) (x := .slice (some ⟨w.heap.size, 0, none⟩) (m + l2'.length) cap) (show RC X _ (.row nid) _ from ⟨by rw [zac], _, _, _, rfl⟩)
    simpa [Eff.app, St.dels, St.puts] using this
theorem zcT (z : Array Value) (m : Nat) : (Builtin.zeroCells z m).size = m * z.size := by simp [Builtin.zeroCells]
set_option maxHeartbeats 1000000 in
theorem zga {P : Program} {w : World} {t u ty e : TypeId} {i : TypeInfo} {z : Value} {ku kd : IntKind} {m : Nat} {val : Value} {n : Nat} {xs : List Value}
    (ht : P.underlying t = some (.slice e)) (hu : P.underlying u = some (.int ku)) (hi : P.info? e = some i) (hz : i.zero = some z) (hzs : z.cells.size = i.size)
    (hb : (n + m) * i.bytes <= 140737488355328) (hb0 : 0 < i.bytes) (h1 : ∀ u ∈ (Builtin.zeroCells z.cells m).toList, u.oneCell' = true)
    (hval : (val = .slice none 0 0 /\ n = 0 /\ xs = []) \/ ∃ g cap cur, val = .slice (some ⟨g, 0, none⟩) n cap /\ w.heap[g]? = some (.cells cur e (0, 0)) /\ n <= cap /\ cap <= maxLen /\ cur.size = cap * i.size /\ cur.toList.take (n * i.size) = xs) :
    ∃ val' w', (Builtin.append_ #[t, u] ty #[val, .int kd m]).run P w = .ok val' w' /\
      ((val' = .slice none 0 0 /\ n + m = 0 /\ w' = w) \/
       ∃ g cap cur, val' = .slice (some ⟨g, 0, none⟩) (n + m) cap /\ w'.heap[g]? = some (.cells cur e (0, 0)) /\ n + m <= cap /\ cap <= maxLen /\ cur.size = cap * i.size /\ cur.toList.take ((n + m) * i.size) = xs ++ (Builtin.zeroCells z.cells m).toList /\
         w'.os = w.os /\ w'.tape = w.tape /\ w'.output = w.output /\ w.heap.size <= w'.heap.size /\
         ((val.ownBlock = some g /\ ∀ k, k ≠ g -> w'.heap[k]? = w.heap[k]?) \/ (g = w.heap.size /\ ∀ k, k < w.heap.size -> w'.heap[k]? = w.heap[k]?))) := by
  have hnm : n + m <= 140737488355328 := Nat.le_trans (Nat.le_mul_of_pos_right _ hb0) hb
  have hmb : m * i.bytes <= 140737488355328 := Nat.le_trans (Nat.mul_le_mul_right _ (Nat.le_add_left _ _)) hb
  have hwr : IntKind.i64.wrap (m : Int) = m := by rw [IntKind.wrap_i64]; omega
  have hneg : ¬ ((m : Int) < 0) := by omega
  have hbig : ¬ (281474976710656 < (m : Int) * (i.bytes : Int)) := by
    have h := Int.ofNat_le.2 hmb
    rw [Int.natCast_mul] at h
    generalize (m : Int) * (i.bytes : Int) = q at h ⊢
    omega
  have hl : (Builtin.zeroCells z.cells m).toList.length = m * i.size := by rw [Array.length_toList, zcT, hzs]
  have hzero : (if m * i.size = 0 then (#[] : Array Value) else Builtin.zeroCells z.cells m) = Builtin.zeroCells z.cells m := by
    split
    . rename_i h
      exact (Array.eq_empty_of_size_eq_zero (by rw [zcT, hzs, h])).symm
    . rfl
  generalize hnews : Builtin.zeroCells z.cells m = news at *
  have grown : ∀ (old : Nat), ∃ cap cur, grownCap w (n + m) old e = cap /\ n + m <= cap /\ cap <= maxLen /\ cur = xs.toArray ++ news ++ Builtin.zeroCells z.cells (cap - (n + m)) := fun old =>
    ⟨_, _, rfl, grownCap_ge _ _ _ _, grownCap_le_maxLen _ _ _ _ (by simp only [maxLen]; omega), rfl⟩
  have grow : ∀ (base : Option Addr) (cap0 : Nat), val = .slice base n cap0 -> ¬ (n + m <= cap0) -> xs.length = n * i.size -> (∀ w', (∀ a, w'.cell? a = w.cell? a) -> (Builtin.firstCells i.size n val).run P w' = .ok xs.toArray w') ->
      ∃ cap cur, (Builtin.append_ #[t, u] ty #[val, .int kd m]).run P w = .ok (.slice (some ⟨w.heap.size, 0, none⟩) (n + m) cap) (w.drew.alloc (.cells cur e)) /\ n + m <= cap /\ cap <= maxLen /\ cur.size = cap * i.size /\ cur.toList.take ((n + m) * i.size) = xs ++ news.toList := fun base cap0 hv hno hxl hold => by
    obtain ⟨cap, cur, hc1, hc2, hc3, hc4⟩ := grown cap0
    have hfit : ¬ (Builtin.nextslicecap (n + m) cap0 * i.bytes > 2 ^ 48) := by
      have := growslice_fits (need := n + m) (old := cap0) (bytes := i.bytes) (by omega) hb
      omega
    have h63 : ¬ (IntKind.i64.max < (n : Int) + (m : Int)) := by
      simp only [show IntKind.i64.max = 9223372036854775807 from rfl]; omega
    have h64 : ¬ ((9223372036854775807 : Int) < (n : Int) + (m : Int)) := by omega
    refine ⟨cap, cur, ?_, hc2, hc3, ?_, ?_⟩
    . subst hc4
      have hold' := hold w.drew (fun _ => rfl)
      rw [hv] at hold'
      have hfit' : ¬ (281474976710656 < Builtin.nextslicecap (n + m) cap0 * i.bytes) := by omega
      have hb1 : i.bytes ≠ 0 := by omega
      rw [hv]
      have hc1' : (Question.appendCap (n + m) cap0 e).cut (w.tape w.drawn (Question.appendCap (n + m) cap0 e)) = cap := hc1
      by_cases hz0 : m * i.size = 0
      . rw [if_pos hz0] at hzero
        simp [Builtin.append_, run_underlying ht, run_underlying hu, sizeOf, typeInfo, zeroValue, asInt, asIntOf, hwr, hneg, hbig, hi, hz, hno, h63, h64, hfit', hb1, Question.forced, newRow, hold', hz0, hnews, hc1', ← hzero]
      . simp [Builtin.append_, run_underlying ht, run_underlying hu, sizeOf, typeInfo, zeroValue, asInt, asIntOf, hwr, hneg, hbig, hi, hz, hno, h63, h64, hfit', hb1, Question.forced, newRow, hold', hz0, hnews, hc1']
    . rw [hc4]
      simp only [Array.size_append, List.size_toArray, size_zeroCells, hzs, hxl, show news.size = m * i.size by rw [← Array.length_toList]; exact hl, ← Nat.add_mul]
      congr 1; omega
    . rw [hc4]
      simp only [Array.toList_append, List.append_assoc]
      rw [← List.append_assoc, show (n + m) * i.size = (xs ++ news.toList).length from by rw [List.length_append, hxl, hl, Nat.add_mul]]
      exact List.take_left
  rcases hval with ⟨rfl, rfl, rfl⟩ | ⟨g, cap, cur, rfl, hg, hnc, hcm, hcs, htk⟩
  . by_cases hm0 : m = 0
    . subst hm0
      have hn0 : news = #[] := by rw [← hnews]; simp [Builtin.zeroCells]
      subst hn0
      refine ⟨.slice none 0 0, w, ?_, .inl ⟨rfl, rfl, rfl⟩⟩
      simp [Builtin.append_, run_underlying ht, run_underlying hu, sizeOf, typeInfo, zeroValue, asInt, asIntOf, hi, hz, IntKind.wrap_i64]
    . obtain ⟨cap, cur, h1, h2, h3, h4, h5⟩ := grow none 0 rfl (by omega) (by simp) (fun w' _ => by simp [Builtin.firstCells])
      refine ⟨_, _, h1, .inr ⟨w.heap.size, cap, cur, rfl, heap_alloc_new w.drew _, h2, h3, h4, h5, rfl, rfl, rfl, by simp, .inr ⟨rfl, fun k hk => heap_alloc_old w.drew _ k hk⟩⟩⟩
  . have hxl : xs.length = n * i.size := by rw [← htk]; simp; rw [hcs]; exact Nat.min_eq_left (Nat.mul_le_mul_right _ hnc)
    by_cases hroom : n + m <= cap
    . have hfit : n * i.size + news.toList.length <= cur.size := by rw [hl, hcs, ← Nat.add_mul]; exact Nat.mul_le_mul_right _ hroom
      have hst := run_storeCells_at P g (n * i.size) e news.toList 0 cur w hg (by simpa using hfit) h1
      simp only [Nat.add_zero] at hst
      refine ⟨.slice (some ⟨g, 0, none⟩) (n + m) cap, w.setRow g (cur.toList.take (n * i.size) ++ news.toList ++ cur.toList.drop (n * i.size + news.toList.length)).toArray, ?_, .inr ⟨g, cap, _, rfl, setRow_heap w g cur _ e _ hg, hroom, hcm, ?_, ?_, rfl, rfl, rfl, by simp, .inl ⟨rfl, fun k hk => setRow_other w g k _ hk⟩⟩⟩
      . by_cases hz0 : m * i.size = 0
        . rw [if_pos hz0] at hzero
          rw [← hzero] at hst ⊢
          simp [Builtin.append_, run_underlying ht, run_underlying hu, sizeOf, typeInfo, zeroValue, asInt, asIntOf, hwr, hneg, hbig, hi, hz, hz0, hroom, zaT, hst]
        . simp [Builtin.append_, run_underlying ht, run_underlying hu, sizeOf, typeInfo, zeroValue, asInt, asIntOf, hwr, hneg, hbig, hi, hz, hz0, hnews, hroom, zaT, hst]
      . simp only [List.size_toArray, List.length_append, List.length_take, List.length_drop, Array.length_toList]
        rw [Array.length_toList] at hfit
        omega
      . rw [htk, show (n + m) * i.size = (xs ++ news.toList).length from by rw [List.length_append, hxl, hl, Nat.add_mul]]
        exact List.take_left
    . have holds : ∀ j u, xs[j]? = some u -> w.cell? ((⟨g, 0, none⟩ : Addr).add j) = some u := fun j u hu => by
        rw [zaT, Nat.zero_add, cell_of_row w g j cur e (0, 0) hg]
        rw [← htk, List.getElem?_take] at hu
        split at hu
        . simpa using hu
        . cases hu
      obtain ⟨cap', cur', h1, h2, h3, h4, h5⟩ := grow (some ⟨g, 0, none⟩) cap rfl hroom hxl (fun w' hw' => by
        have := run_firstCells_some (P := P) w' i.size n ⟨g, 0, none⟩ n cap xs hxl (fun j u hu => by rw [hw']; exact holds j u hu)
        exact this)
      exact ⟨_, _, h1, .inr ⟨w.heap.size, cap', cur', rfl, heap_alloc_new w.drew _, h2, h3, h4, h5, rfl, rfl, rfl, by simp, .inr ⟨rfl, fun k hk => heap_alloc_old w.drew _ k hk⟩⟩⟩
theorem zpI (h : Sim X ρ s a w) (t : TypeId) (n : Operand) {k : Int} (hn : lenI (X.pd.ev t s n).c? = some k) : ∃ kd, a.eval n = .int kd k := by
  unfold lenI at hn
  split at hn
  . rename_i q hq
    cases hn
    exact ⟨_, zap (X := X) (ρ := ρ) (c := .int _) rfl (ev_c h hq)⟩
  . rename_i q hq
    cases hn
    exact ⟨_, zap (X := X) (ρ := ρ) (c := .u8 _) rfl (ev_c h hq)⟩
  . cases hn
theorem zkh {o : Oper} (hp : PDok X.P X.pd) (x y : Operand) (t u : TypeId) (ho : o.op = .call ⟨.builtin .append, #[x, y], #[t, u]⟩) {et : TypeId} {ei : TI} {ku : IntKind} {f : El} {l : List f.T} {id nid m : Nat} {k : Int} {rd : List Nat}
    (ht : X.P.underlying t = some (.slice et)) (hu : X.P.underlying u = some (.int ku)) (hei : X.pd.ti et = some ei) (hel : X.pd.el et = some f)
    (hx : (X.pd.ev t s x).c? = some (.row id)) (hy : lenI (X.pd.ev u s y).c? = some k) (hg : s.get id = some ⟨true, m, et, .vec f l⟩)
    (h0 : 0 <= k) (hb0 : 0 < ei.bytes) (hb : (l.length + k.toNat) * ei.bytes <= 140737488355328) :
    Does X o s ⟨o.dst, .u (.c (.row nid)), [(nid, ⟨true, m, et, .vec f (l ++ List.replicate k.toNat f.zero)⟩)], [id], [nid], rd⟩ := by
  intro ρ a w Q h hnew
  have hm := zcv hnew
  obtain ⟨hv, _⟩ := ev_c h hx
  obtain ⟨kd, hvy⟩ := zpI h u y hy
  obtain ⟨c, rfl⟩ := Int.eq_ofNat_of_zero_le h0
  simp only [Int.toNat_natCast] at hb ⊢
  obtain ⟨i, z, hi1, hi2, hi3, hi4, hz, hzs⟩ := zcX hp hei hel
  generalize hl2 : List.replicate c f.zero = l2'
  have hll2 : l2'.length = c := by rw [← hl2, List.length_replicate]
  obtain ⟨news, hnews⟩ : ∃ news, news = (Builtin.zeroCells z.cells c).toList := ⟨_, rfl⟩
  have hn1 : RCs X ρ (flat f l2') news := by
    rw [hnews, ← hl2, zch]
    show RCs X ρ _ ((Array.range (c * z.cells.size)).map (z.cells[· % z.cells.size]!)).toList
    rw [zgd]
    exact zcw (zcK hz) c
  have hnl := zat hn1
  rw [zab] at hnl
  have hro := h.ob _ _ hg
  have e1 := hro.sz
  have e2 := hro.len
  simp only [O.sz, O.len] at e1 e2
  have hn0 := (hro.vec rfl).2
  simp only at hn0
  subst hn0
  have hcur : ∃ xs, RCs X ρ (flat f l) xs /\ (((ρ id).val = .slice none 0 0 /\ l.length = 0 /\ xs = []) \/ ∃ g cap cur, (ρ id).val = .slice (some ⟨g, 0, none⟩) l.length cap /\ w.heap[g]? = some (.cells cur et (0, 0)) /\ l.length <= cap /\ cap <= maxLen /\ cur.size = cap * i.size /\ cur.toList.take (l.length * i.size) = xs) /\
      (∀ g, (ρ id).val.ownBlock = some g -> g = (ρ id).blk) := by
    rcases hro.mem with ⟨_, h2, h3⟩ | ⟨vs, ty, cap, h1, h2, h3, h4, h5⟩
    . rcases zb4 hro with ⟨_, rfl⟩ | ⟨cap, h6, _⟩
      . exact ⟨[], trivial, .inl ⟨h2, rfl, rfl⟩, fun g hg => by rw [h2] at hg; cases hg⟩
      . rw [h2] at h6; cases h6
    . obtain ⟨h6, h7, h8, h9, h10⟩ := h5 rfl
      simp only at h6
      subst h6
      refine ⟨vs.toList.take (l.length * f.size), by simpa [O.cells, zab] using h2, .inr ⟨(ρ id).blk, cap, vs, h7, h1, h8, h9, by rw [hi2]; exact h10, by rw [hi2]⟩, fun g hg => ?_⟩
      rw [h7] at hg
      cases hg
      rfl
  obtain ⟨xs, hxs, hval, hown⟩ := hcur
  obtain ⟨val', w', hrun, hres⟩ := zga (P := X.P) (w := w) (ty := o.type) (kd := kd) (m := c) (val := (ρ id).val) ht hu hi1 hi4 (by rw [hzs, hi2]) (by rw [hi3]; exact hb) (by rw [hi3]; exact hb0) (by rw [← hnews]; exact zfh hn1 (zdO _ _)) hval
  rw [← hnews, ← hll2] at hres
  have hexec : (execOp a.eval o).run X.P w = .ok (.value val') w' := by
    simp [execOp, ho, resolve, invoke, builtin, hv, hvy, hrun]
  have hmd : St.men ⟨s.tm, zbL id s.ob⟩ nid = false := zlL hm
  have hcells : RCs X (upd ρ nid ⟨0, val', f.size, (l ++ l2').length⟩) (flat f (l ++ l2')) (xs ++ news) := by
    rw [zdg]
    exact zcy (zdk (fun j hj => by rw [zbi] at hj; cases hj) hxs) (zdk (fun j hj => by rw [zbi] at hj; cases hj) hn1)
  have hgd : ∀ j z, St.get ⟨s.tm, zbL id s.ob⟩ j = some z -> s.get j = some z /\ j ≠ id := fun j z hz => by
    unfold St.get at *
    by_cases e : j = id
    . subst e; rw [zbO] at hz; cases hz
    . rw [zcD _ e] at hz; exact ⟨hz, e⟩
  have fin : ∀ r : RI, r.val = val' -> (∃ a n c, val' = .slice a n c) -> Sim X (upd ρ nid r) ⟨s.tm, za5 nid ⟨true, 0, et, .vec f (l ++ l2')⟩ (zbL id s.ob)⟩ a w' ->
      o.wp X.P a w (fun a' w' => ∃ ρ', Sim X ρ' ((⟨o.dst, .u (.c (.row nid)), [(nid, ⟨true, 0, et, .vec f (l ++ l2')⟩)], [id], [nid], rd⟩ : Eff).app s) a' w') Q := fun r hr hsl hs => by
    unfold Oper.wp
    rw [hexec]
    refine ⟨upd ρ nid r, ?_⟩
    cases hd : o.dst with
    | none => simpa [Eff.app, St.dels, St.puts, Act.put] using hs
    | some d =>
      have := hs.set d (v := .u (.c (.row nid))) (x := val') (show RC X _ (.row nid) _ from ⟨by rw [zac, hr], hsl⟩)
      simpa [Eff.app, St.dels, St.puts] using this
  rcases hres with ⟨rfl, hz0, rfl⟩ | ⟨g, cap, cur, rfl, hh1, hh2, hh3, hh4, hh5, hos, htape, hout, hsize, hblk⟩
  . have hll : l ++ l2' = [] := List.eq_nil_of_length_eq_zero (by rw [List.length_append]; exact hz0)
    rw [hll] at fin ⊢
    refine fin ⟨0, .slice none 0 0, f.size, 0⟩ rfl ⟨_, _, _, rfl⟩ ?_
    refine (h.del id).add nid ⟨true, 0, et, .vec f []⟩ ⟨0, .slice none 0 0, f.size, 0⟩ hmd (znl rfl rfl rfl) (fun hb => ?_)
    rcases hb with hb | hb
    . cases hb
    . rw [zac] at hb; exact absurd rfl hb
  . have hB : (ρ id).val.ownBlock = some g -> hasB ρ id ⟨true, 0, et, .vec f l⟩ := fun hg2 => .inr (by intro hn; rw [hn] at hg2; cases hg2)
    have hownB : X.w0.heap.size <= g \/ X.may g := by
      rcases hblk with ⟨hb1, _⟩ | ⟨rfl, _⟩
      . rw [hown g hb1]; exact h.own _ _ hg (hB hb1)
      . exact .inl h.fr.size
    have hdis : ∀ j z, St.get ⟨s.tm, zbL id s.ob⟩ j = some z -> hasB ρ j z -> (ρ j).blk ≠ g := fun j z hz hbz => by
      obtain ⟨hz1, hz2⟩ := hgd j z hz
      rcases hblk with ⟨hb1, _⟩ | ⟨rfl, _⟩
      . rw [hown g hb1]; exact h.inj j id z _ hz1 hg hz2 hbz (hB hb1)
      . have := h.lt hz1 hbz; omega
    have hsame : ∀ k, k < w.heap.size -> k ≠ g -> w'.heap[k]? = w.heap[k]? := fun k hk hkg => by
      rcases hblk with ⟨_, hb2⟩ | ⟨_, hb2⟩
      . exact hb2 k hkg
      . exact hb2 k hk
    have hs2 : Sim X ρ ⟨s.tm, zbL id s.ob⟩ a w' := (h.del id).world (fun j z hz hbz => hsame _ (h.lt (hgd j z hz).1 hbz) (hdis j z hz hbz))
      ⟨hos.trans h.fr.os, htape.trans h.fr.tape, hout.trans h.fr.output, Nat.le_trans h.fr.size hsize, fun k hk hmk => by
        rw [hsame k (Nat.lt_of_lt_of_le hk h.fr.size) (fun e => by subst e; rcases hownB with h1 | h1; omega; exact hmk h1)]
        exact h.fr.block k hk hmk⟩
    refine fin ⟨g, .slice (some ⟨g, 0, none⟩) (l.length + l2'.length) cap, f.size, (l ++ l2').length⟩ rfl ⟨_, _, _, rfl⟩ ?_
    refine hs2.add nid _ _ hmd ⟨by rw [zac]; rfl, by rw [zac]; rfl, (fun h => by cases h), fun _ => ⟨⟨f, _, rfl⟩, rfl⟩, .inr ⟨cur, et, cap, ?_, ?_, ?_, (fun h => by cases h), fun _ => ⟨rfl, ?_, ?_, hh3, ?_⟩⟩⟩ (fun _ => ⟨hdis, hownB⟩)
    . rw [zac]; exact hh1
    . simp only [O.cells, zab, List.length_append]
      rw [← hi2, hh5]
      exact zbQ (fun j hj => by rw [zbi] at hj; cases hj) hcells
    . simp only [O.cells, zab, List.length_append, hh4, hi2]; exact Nat.mul_le_mul_right _ hh2
    . rw [zac]; simp [O.len]
    . simpa [O.len] using hh2
    . simp only [O.sz, hh4, hi2]
end
section
variable {X : Ctx} {ρ : Nat -> RI} {s : St} {a : Act} {w : World}
theorem zpJ {o : Oper} (hp : PDok X.P X.pd) (src dst : TypeId) (x : Operand) (ho : o.op = .convert src dst x) {k : IntKind} {c d : C} {ts : TI} {sz by' : Nat} {z : List C} {rd : List Nat}
    (hs : X.pd.ti src = some ts) (hd : X.pd.ti dst = some ⟨.int k, sz, by', z⟩) (hx : (X.pd.ev src s x).c? = some c) (hc : zta k c = some d) : Does X o s ⟨o.dst, .u (.c d), [], [], [], rd⟩ := by
  intro ρ a w Q h _
  obtain ⟨j, n, h1, h2⟩ := zwt hc
  have e1 := zap h1 (ev_c h hx)
  refine zaW h ?_ (show RC X ρ d _ from za0 h2)
  have hk := (hp.ti _ _ hd).kind
  have hu : ∃ d, X.P.underlying src = some d := by
    have := (hp.ti _ _ hs).kind
    cases hkk : ts.k <;> rw [hkk] at this <;> simp only [zhU] at this
    case arr n e => exact ⟨_, this.1⟩
    case struct fs => obtain ⟨⟨f, h, _⟩, _⟩ := this; exact ⟨_, h⟩
    all_goals exact ⟨_, this⟩
  obtain ⟨d, hu⟩ := hu
  simp [execOp, ho, e1, convert, run_underlying hu, run_underlying hk, Conv.intToInt]
theorem zww {l : List UInt8} {vs : List Value} (h : RCs X ρ (flat .u8 l) vs) : vs = l.map fun x => Value.int .u8 x.toNat := by
  induction l generalizing vs with
  | nil => cases vs with
    | nil => rfl
    | cons v vs => exact h.elim
  | cons x l ih => cases vs with
    | nil => exact h.elim
    | cons v vs =>
      have h1 := zap (X := X) (ρ := ρ) (c := .u8 x) rfl h.1
      have h2 := ih (vs := vs) h.2
      simp [h1, h2]
theorem zoj {o : Oper} (hp : PDok X.P X.pd) (src dst : TypeId) (x : Operand) (ho : o.op = .convert src dst x) {c : C} {et : TypeId} {l : List UInt8} {rd : List Nat}
    (hs : X.P.underlying src = some (.slice et)) (he : X.P.underlying et = some (.int .u8)) (hd : X.P.underlying dst = some .string) (hx : (X.pd.ev src s x).c? = some c) (hc : s.list c = some ⟨.u8, l⟩) (hns : ∀ r, c ≠ .str r) :
    Does X o s ⟨o.dst, .u (.c (.str l)), [], [], [], rd⟩ := by
  intro ρ a w Q h _
  have hv := ev_c h hx
  refine zaW h (x := .string ⟨l.toArray⟩) ?_ (show RC X ρ (.str l) _ from za0 rfl)
  have hfold : ∀ (l : List UInt8) (b : ByteArray), (l.map fun x => (x.toNat : Int)).foldl (fun r n => r.push (UInt8.ofNat n.toNat)) b = ⟨b.data ++ l.toArray⟩ := fun l => by
    induction l with
    | nil => intro b; simp
    | cons x l ih =>
      intro b
      simp only [List.map_cons, List.foldl_cons, ih]
      congr 1
      simp [ByteArray.push]
  rcases zgE h hc hv with ⟨r, rfl⟩ | ⟨rfl, ad, cap, hv2⟩ | ⟨b, off, cap, vs, hv2, h2, h3⟩
  . exact absurd rfl (hns r)
  . cases ad with
    | none => simp [execOp, ho, hv2, convert, run_underlying hs, run_underlying hd, run_underlying he, Conv.bytesToString]; rfl
    | some ad =>
      have := run_bytesToString (P := X.P) w ad 0 cap [] (by simp [loadCells, loadCellsFrom])
      simp [execOp, ho, hv2, convert, run_underlying hs, run_underlying hd, run_underlying he, this]
      rfl
  . have hvs := zww h2
    subst hvs
    have hv2 : a.eval x = .slice (some ⟨b, off, none⟩) (List.length (α := UInt8) l) cap := hv2
    have hl : (loadCells ⟨b, off, none⟩ l.length).run X.P w = .ok ((l.map fun x => (x.toNat : Int)).map (Value.int .u8)).toArray w := by
      have := run_loadCells_list (P := X.P) w ⟨b, off, none⟩ (l.map fun x => Value.int .u8 x.toNat) (fun j v hj => by rw [zaT]; exact h3 j v hj)
      simpa [List.map_map, Function.comp_def] using this
    have := run_bytesToString (P := X.P) w ⟨b, off, none⟩ l.length cap _ hl
    rw [hfold] at this
    simp [execOp, ho, hv2, convert, run_underlying hs, run_underlying hd, run_underlying he, this]
theorem zfl {o : Oper} (t : TypeId) (x : Operand) (ho : o.op = .sliceToArrayPointer t x) {c d : C} {n : Nat} {et : TypeId} {rd : List Nat}
    (ht : X.P.underlying t = some (.array n et)) (hn : 0 < n) (hx : (X.pd.ev 0 s x).c? = some c)
    (hd : (∃ id m ty e l, c = .row id /\ d = .ptr id 0 0 /\ s.get id = some ⟨true, m, ty, .vec e l⟩ /\ n <= l.length) \/ (∃ id i m r n' ty e l, c = .sl id i m /\ d = .ptr id i 0 /\ s.get id = some ⟨r, n', ty, .vec e l⟩ /\ n <= m) \/ ∃ e l, c = .ro e l /\ d = .rop e l 0 0 /\ n <= l.length) :
    Does X o s ⟨o.dst, .u (.c d), [], [], [], rd⟩ := by
  intro ρ a w Q h _
  have hv := ev_c h hx
  have run : ∀ ad len cap, n <= len -> (Instr.arrayAt t (.slice ad len cap)).run X.P w = .ok (.pointer ad) w := fun ad len cap hl => by
    have : ¬ len < n := by omega
    simp [Instr.arrayAt, run_underlying ht, this]
  rcases hd with ⟨id, m, ty, e, l, rfl, rfl, hg, hl⟩ | ⟨id, i, m, r, n', ty, e, l, rfl, rfl, hg, hl⟩ | ⟨e, l, rfl, rfl, hl⟩
  . obtain ⟨hv, _⟩ := hv
    have hro := h.ob _ _ hg
    have e1 := hro.sz
    have e2 := hro.len
    simp only [O.sz, O.len] at e1 e2
    rcases zb4 hro with ⟨_, rfl⟩ | ⟨cap, h2, _⟩
    . simp at hl; omega
    . refine zaW h (x := .pointer (some ⟨(ρ id).blk, 0, none⟩)) ?_ (show RC X ρ (.ptr id 0 0) _ from ⟨by omega, by rw [e1]; exact zaK e, by simp⟩)
      simp [execOp, ho, hv, h2, run _ _ _ hl]
  . obtain ⟨hlen, cap, hcap, hmax, _, hv⟩ := hv
    have hro := h.ob _ _ hg
    have e1 := hro.sz
    simp only [O.sz] at e1
    rcases hv with hv | ⟨hm, ad, hv⟩
    . refine zaW h (x := .pointer (some ⟨(ρ id).blk, i * (ρ id).sz, none⟩)) ?_ (show RC X ρ (.ptr id i 0) _ from ⟨by omega, by rw [e1]; exact zaK e, by simp⟩)
      simp [execOp, ho, hv, run _ _ _ hl]
    . omega
  . have hv : Holds X.w0 X.ok (.ro e l) _ := hv
    generalize hq : a.eval x = vx at hv
    cases hv with
    | sc h => cases h
    | ro f g1 g2 g3 g4 g5 =>
      rename_i b off cap
      refine zaW h (x := .pointer (some ⟨b, off, none⟩)) ?_ (show RC X ρ (.rop e l 0 0) _ from ⟨by omega, zaK e, b, off, by simp, g3, f, g4, g5⟩)
      simp [execOp, ho, hq, run _ _ _ hl]
    | emp => simp at hl; omega
theorem zki {cs : List Value} : zcj true cs = .agg cs.toArray := rfl
theorem zjg {P : Program} {t : TypeId} {ti : TI} (h : TIok P t ti) (w : World) (cs : Array Value) (off : Nat) (hf : off + ti.size <= cs.size) :
    (part t cs off).run P w = .ok (zcj ti.k.agg ((cs.toList.drop off).take ti.size)) w := by
  unfold part
  rw [Sem.run_bind, TI.agg_run h w]
  cases ha : ti.k.agg with
  | true =>
    simp only [Result.andThen_ok, if_true, Sem.run_bind, TI.size_run h w, Sem.run_pure, zcj]
    congr 2
    apply Array.ext'
    simp [Array.toList_extract, List.extract, List.take_drop]
  | false =>
    have h1 := TI.one h ha
    have : off < cs.size := by omega
    have e1 : (cs.toList.drop off).take ti.size = [cs[off]] := by
      rw [h1, List.take_one]
      simp [List.head?_drop, this]
    simp [zcj, e1, this]
theorem zlN {o : Oper} (hp : PDok X.P X.pd) (t : TypeId) (x : Operand) (f : Nat) (ho : o.op = .field t x f) {fs : List (Nat × TypeId)} {sz by' : Nat} {z : List C} {off : Nat} {ft : TypeId} {fi : TI} {l : List C} {u : U} {rd : List Nat}
    (ht : X.pd.ti t = some ⟨.struct fs, sz, by', z⟩) (hx : X.pd.ev t s x = .u (.agg l)) (hf : fs[f]? = some (off, ft)) (hfi : X.pd.ti ft = some fi) (hfit : off + fi.size <= l.length) (hu : X.pd.mkU ft ((l.drop off).take fi.size) = some u) :
    Does X o s ⟨o.dst, .u u, [], [], [], rd⟩ := by
  intro ρ a w Q h _
  have hv := zck h t x
  rw [hx] at hv
  obtain ⟨vs, hv, hc⟩ := hv
  obtain ⟨⟨fields, hun, hfs, _⟩, _⟩ := (hp.ti _ _ ht).kind
  have hfield : ∃ fd : Field, fields[f]? = some fd /\ fd.offset = off /\ fd.type = ft := by
    rw [← hfs] at hf
    simp only [List.getElem?_map, Array.getElem?_toList] at hf
    cases hq : fields[f]? with
    | none => rw [hq] at hf; cases hf
    | some fd => rw [hq] at hf; simp at hf; exact ⟨fd, rfl, hf.1, hf.2⟩
  obtain ⟨fd, hfd, hoff, hty⟩ := hfield
  have hl := zat hc
  have hr := zjg (hp.ti _ _ hfi) w vs off (by rw [hl] at hfit; simpa using hfit)
  refine zaW h (x := zcj fi.k.agg ((vs.toList.drop off).take fi.size)) ?_ (show RU X ρ u _ from zfJ hu (zbe (zbn hc off) fi.size) hfi)
  simp [execOp, ho, hv, Instr.field, run_underlying hun, hfd, asAgg, hty, hoff, hr]
theorem zgH {o : Oper} (hp : PDok X.P X.pd) (t : TypeId) (x i : Operand) (ho : o.op = .index t x i) {n : Nat} {et : TypeId} {sz by' : Nat} {z : List C} {ei : TI} {l : List C} {k : Nat} {j : Int} {u y : U} {rd : List Nat}
    (ht : X.pd.ti t = some ⟨.arr n et, sz, by', z⟩) (hx : X.pd.ev t s x = .u y) (hy : (∃ e l, y = .vec e l) \/ ∃ l, y = .agg l) (hi : (X.pd.ev 3 s i).int? = some j) (hk : j = k) (hkn : k < n) (hei : X.pd.ti et = some ei)
    (hfit : k * ei.size + ei.size <= y.cells.length) (hu : X.pd.mkU et ((y.cells.drop (k * ei.size)).take ei.size) = some u) : Does X o s ⟨o.dst, .u u, [], [], [], rd⟩ := by
  intro ρ a w Q h _
  have hv := zck h t x
  rw [hx] at hv
  have hvs : ∃ vs, a.eval x = .agg vs /\ RCs X ρ y.cells vs.toList := by
    rcases hy with ⟨e, l, rfl⟩ | ⟨l, rfl⟩ <;> exact hv
  obtain ⟨vs, hv, hc⟩ := hvs
  obtain ⟨kk, hj⟩ := znh h hi
  have hun := (hp.ti _ _ ht).kind.1
  have hl := zat hc
  have hr := zjg (hp.ti _ _ hei) w vs (k * ei.size) (by rw [hl] at hfit; simpa using hfit)
  refine zaW h (x := zcj ei.k.agg ((vs.toList.drop (k * ei.size)).take ei.size)) ?_ (show RU X ρ u _ from zfJ hu (zbe (zbn hc _) ei.size) hei)
  subst hk
  have h1 : (0 : Int) <= (k : Int) /\ (k : Int) < (n : Int) := by omega
  simp [execOp, ho, hv, hj, Instr.index, asIntOf, run_underlying hun, TI.size_run (hp.ti _ _ hei), hr]
  intro hh; omega
theorem zjh (vs : List Value) : ∀ (k : Nat) (cs : Array Value) (off : Nat), off + k + vs.length <= cs.size ->
    ((vs.zipIdx k).foldl (fun cs (c, j) => cs.setIfInBounds (off + j) c) cs).toList = zan cs.toList (off + k) vs := by
  induction vs with
  | nil => intro k cs off h; simp [zan]
  | cons v vs ih =>
    intro k cs off h
    simp only [List.zipIdx_cons, List.foldl_cons]
    rw [ih (k + 1) _ off (by simp at h ⊢; omega)]
    simp only [Array.toList_setIfInBounds, zan, List.length_cons, Nat.add_assoc]
    simp at h
    apply List.ext_getElem?
    intro j
    simp only [List.getElem?_append, List.length_take, List.length_set, List.getElem?_take, List.getElem?_drop, List.getElem?_set, Array.length_toList, List.length_cons, List.getElem?_cons]
    grind
theorem zgI (cs : Array Value) (off : Nat) (vs : Array Value) (h : off + vs.size <= cs.size) :
    (vs.zipIdx.foldl (fun cs (c, j) => cs.setIfInBounds (off + j) c) cs).toList = zan cs.toList off vs.toList := by
  rw [← Array.foldl_toList, Array.toList_zipIdx]
  exact zjh vs.toList 0 cs off (by simpa using h)
end
section
variable {X : Ctx} {ρ : Nat -> RI} {s : St} {a : Act} {w : World}
theorem zji (hp : PDok X.P X.pd) (h : Sim X ρ s a w) {n : Nat} {place : Nat -> Option (Nat × TypeId)} {real : Nat -> Option (Nat × Nat)} (hreal : ∀ i off t ti, place i = some (off, t) -> X.pd.ti t = some ti -> real i = some (off, ti.size)) :
    ∀ (parts : List (Nat × Operand)) {ps : List (Nat × List C)} {l : List C} {cs : Array Value}, zaR X.pd s n place parts = some ps -> RCs X ρ l cs.toList -> cs.size = n ->
      ∃ cs', Instr.fill real cs (parts.map fun (i, x) => (i, a.eval x)) = some cs' /\ RCs X ρ (zdY l ps) cs'.toList /\ cs'.size = n := by
  intro parts
  induction parts with
  | nil =>
    intro ps l cs h1 h2 h3
    simp [zaR] at h1
    subst h1
    exact ⟨cs, rfl, h2, h3⟩
  | cons p parts ih =>
    obtain ⟨i, x⟩ := p
    intro ps l cs h1 h2 h3
    simp only [zaR] at h1
    cases hpl : place i with
    | none => simp [hpl] at h1
    | some q =>
      obtain ⟨off, t⟩ := q
      simp only [hpl] at h1
      cases hti : X.pd.ti t with
      | none => simp [hti] at h1
      | some ti =>
        simp only [hti] at h1
        cases hev : X.pd.ev t s x with
        | tup _ => simp [hev] at h1
        | dead => simp [hev] at h1
        | u u =>
          simp only [hev] at h1
          obtain ⟨g1, g2⟩ := zaa h1
          simp only [Bool.and_eq_true] at g1
          have e1 := Nat.beq_true g1.1
          have e2 : off + ti.size <= n := by simpa [Nat.ble_eq] using g1.2.2
          have hv := zck h t x
          rw [hev] at hv
          obtain ⟨hc1, hc2⟩ := zjb hv g1.2.1
          have hlen := zat hc1
          have hsz : (a.eval x).cells.size = ti.size := by rw [← e1, hlen]; simp
          split at g2
          . rename_i r hr
            cases g2
            have hfit : off + (a.eval x).cells.size <= cs.size := by rw [hsz, h3]; exact e2
            have hsp := zgI cs off (a.eval x).cells hfit
            have hcs2 : RCs X ρ (zan l off u.cells) ((a.eval x).cells.zipIdx.foldl (fun cs (c, j) => cs.setIfInBounds (off + j) c) cs).toList := by
              rw [hsp]; exact zfe h2 hc1 off
            have hs2 : ((a.eval x).cells.zipIdx.foldl (fun cs (c, j) => cs.setIfInBounds (off + j) c) cs).size = n := by
              rw [← Array.length_toList, hsp, zaH _ _ _ (by simpa using hfit)]
              simpa using h3
            obtain ⟨cs', k1, k2, k3⟩ := ih hr hcs2 hs2
            refine ⟨cs', ?_, k2, k3⟩
            simp only [List.map_cons, Instr.fill, hreal i off t ti hpl hti]
            have hno : ¬ ((a.eval x).cells.size ≠ ti.size || decide (off + (a.eval x).cells.size > cs.size)) = true := by
              simp [hsz]; omega
            simp only [hno, if_false]
            exact k1
          . cases g2
theorem zlO {P : Program} (fs : List Field) (h : fs.all (fun f => f.name != "_" && (P.info? f.type).isSome) = true) :
    fs.mapM (fun f => (P.info? f.type).map fun i => (f.offset, i.size)) = some (fs.map fun f => (f.offset, P.cellsOf f.type)) := by
  induction fs with
  | nil => rfl
  | cons f fs ih =>
    simp only [List.all_cons, Bool.and_eq_true] at h
    obtain ⟨⟨_, h1⟩, h2⟩ := h
    have h2' := ih (by simpa [List.all_eq_true, Bool.and_eq_true] using h2)
    obtain ⟨i, hi⟩ := Option.isSome_iff_exists.1 h1
    simp [List.mapM_cons, hi, h2', Program.cellsOf]
theorem zkj : ∀ (n : Nat) (vs : List Value), vs.length = n -> RCs X ρ (List.replicate n C.dead) vs
  | 0, [], _ => trivial
  | n + 1, v :: vs, h => ⟨trivial, zkj n vs (by simpa using h)⟩
theorem znp {p : C -> Bool} {l : List C} : anyC p l = false ↔ ∀ c ∈ l, p c = false := by
  induction l with
  | nil => simp [anyC]
  | cons x l ih =>
    simp only [anyC]
    cases hx : p x <;> simp [hx, ih]
theorem zkk {id : Nat} : ∀ (ps : List (Nat × List C)) (l : List C), anyC (C.men id) l = false -> (∀ p ∈ ps, anyC (C.men id) p.2 = false) -> anyC (C.men id) (zdY l ps) = false
  | [], l, h, _ => h
  | (off, cs) :: ps, l, h, hp => by
    refine zkk ps _ ?_ fun p hq => hp p (List.mem_cons_of_mem _ hq)
    have h2 := hp (off, cs) List.mem_cons_self
    rw [znp] at h h2 ⊢
    intro c hc
    unfold zan at hc
    rcases List.mem_append.1 hc with hc | hc
    . exact h c (List.mem_of_mem_take hc)
    . rcases List.mem_append.1 hc with hc | hc
      . exact h2 c hc
      . exact h c (List.mem_of_mem_drop hc)
theorem zlP {id : Nat} (hm : s.men id = false) {n : Nat} {place : Nat -> Option (Nat × TypeId)} : ∀ (parts : List (Nat × Operand)) {ps : List (Nat × List C)}, zaR X.pd s n place parts = some ps -> ∀ p ∈ ps, anyC (C.men id) p.2 = false := by
  intro parts
  induction parts with
  | nil =>
    intro ps h
    simp [zaR] at h
    subst h
    intro p hp
    cases hp
  | cons q parts ih =>
    obtain ⟨i, x⟩ := q
    intro ps h
    simp only [zaR] at h
    cases hpl : place i with
    | none => simp [hpl] at h
    | some q =>
      obtain ⟨off, t⟩ := q
      simp only [hpl] at h
      cases hti : X.pd.ti t with
      | none => simp [hti] at h
      | some ti =>
        simp only [hti] at h
        cases hev : X.pd.ev t s x with
        | tup _ => simp [hev] at h
        | dead => simp [hev] at h
        | u u =>
          simp only [hev] at h
          obtain ⟨g1, g2⟩ := zaa h
          simp only [Bool.and_eq_true] at g1
          split at g2
          . rename_i r hr
            cases g2
            intro p hp
            rcases List.mem_cons.1 hp with rfl | hp
            . have := zvq (X := X) (t := t) (x := x) hm
              rw [hev] at this
              rw [← men_cells (zkd g1.2.1)]
              exact this
            . exact ih hr p hp
          . cases g2
theorem zgJ {o : Oper} (hp : PDok X.P X.pd) (t : TypeId) (n : Nat) (parts : Array (Nat × Operand)) (ho : o.op = .buildSlice t n parts) {et : TypeId} {ei : TI} {ps : List (Nat × List C)} {id : Nat} {rd : List Nat}
    (ht : X.P.underlying t = some (.slice et)) (hei : X.pd.ti et = some ei) (h1 : ei.size = 1) (hpin : et < PIN) (hpos : 0 < n) (hn : n <= 4096) (hps : zaR X.pd s (n * ei.size) (fun i => some (i * ei.size, et)) parts.toList = some ps) :
    Does X o s ⟨o.dst, .u (.c (.asl id 0 .u64 n)), [(id, ⟨false, 0, et, .lit (zdY (List.replicate n .dead) ps)⟩)], [], [id], rd⟩ := by
  intro ρ a w Q h hnew
  have hmen := zcv hnew
  obtain ⟨i, z, hi1, hi2, hi3, hi4, hz, hza, _⟩ := (hp.ti _ _ hei).info
  have hi2' : i.size = 1 := by rw [hi2, h1]
  obtain ⟨cs', k1, k2, k3⟩ := zji (n := n * ei.size) (real := fun j => some (j * i.size, i.size)) hp h (fun j off ft ti hj hti => by
    simp only [oi1, pi1] at hj
    obtain ⟨rfl, rfl⟩ := hj
    rw [hei] at hti
    cases hti
    rw [hi2]) parts.toList (l := List.replicate n .dead) (cs := (Array.range (n * i.size)).map (z.cells[· % z.cells.size]!)) hps (zkj _ _ (by simp [hi2'])) (by simp [hi2])
  have hrun : (execOp a.eval o).run X.P w = .ok (.value (.slice (some ⟨w.heap.size, 0, none⟩) n n)) (w.alloc (.cells cs' et)) := by
    have hbig : ¬ (n * i.size > 2 ^ 24) := by rw [hi2']; omega
    have hcz : ¬ (n * i.size = 0) := by rw [hi2']; omega
    have k1' : Instr.fill (fun j => some (j * i.size, i.size)) ((Array.range (n * i.size)).map (z.cells[· % z.cells.size]!)) (parts.map fun (i, x) => (i, a.eval x)).toList = some cs' := by
      rw [← k1]; simp
    simp only [execOp, ho, Instr.buildSlice, Sem.run_bind, run_underlying ht, Result.andThen_ok, sizeOf, typeInfo, run_program, hi1, Sem.run_pure]
    rw [if_neg hbig, if_neg hcz]
    simp only [zeroValue, typeInfo, Sem.run_bind, run_program, hi1, hi4, Sem.run_pure, Result.andThen_ok, k1']
    rfl
  have hlen : (zdY (List.replicate n .dead) ps).length = n := by
    have h2 := zat k2
    have h3 : cs'.toList.length = cs'.size := Array.length_toList
    rw [h2, h3, k3, h1, Nat.mul_one]
  refine zkc (r := ⟨w.heap.size, undef, n, 1⟩) h hmen hrun rfl ?_ ?_
  . have := zpC (ρ := ρ) (id := id) (w := w) (ty := et) (x := ⟨false, 0, et, .lit (zdY (List.replicate n .dead) ps)⟩) (r := ⟨w.heap.size, undef, n, 1⟩) (vs := cs'.toList) rfl (fun e l h => by cases h) (Nat.not_le.2 hpin) rfl (by simp only [O.sz, hlen]) rfl (by
      simp only [O.cells]
      refine zdk (fun j hj e => ?_) k2
      subst e
      rw [zkk ps _ (znp.2 fun c hc => by rw [List.eq_of_mem_replicate hc]; rfl) (zlP (X := X) hmen _ hps)] at hj
      cases hj)
    simpa using this
  . show RC X _ (.asl id 0 .u64 n) _
    simp only [RC, zac]
    exact ⟨trivial, by simp [El.size], by simp only [maxLen]; omega, trivial⟩
theorem zgK {o : Oper} (hp : PDok X.P X.pd) (t : TypeId) (n : Nat) (parts : Array (Nat × Operand)) (ho : o.op = .buildSlice t n parts) {et : TypeId} {ei : TI} {e : El} {ps : List (Nat × List C)} {l : List e.T} {id : Nat} {rd : List Nat}
    (ht : X.P.underlying t = some (.slice et)) (hei : X.pd.ti et = some ei) (hel : X.pd.el et = some e) (hps : zaR X.pd s (n * ei.size) (fun i => some (i * ei.size, et)) parts.toList = some ps)
    (hl : zd1 e n (zdY (flat e (List.replicate n e.zero)) ps) = some l) (hn : n * ei.size <= 4096) : Does X o s ⟨o.dst, .u (.c (.row id)), [(id, ⟨true, 0, et, .vec e l⟩)], [], [id], rd⟩ := by
  intro ρ a w Q h hnew
  have hmen := zcv hnew
  obtain ⟨i, z, hi1, hi2, hi3, hi4, hz, hzs⟩ := zcX hp hei hel
  obtain ⟨ti, h1, h2, h3⟩ := hp.el _ _ hel
  rw [hei] at h1; cases h1
  obtain ⟨hfl, hll⟩ := zgx e n _ l hl
  have hz0 : RCs X ρ (flat e (List.replicate n e.zero)) ((Array.range (n * i.size)).map (z.cells[· % z.cells.size]!)).toList := by
    rw [hi2, ← hzs, zgd, zch]
    exact zcw (zcK hz) n
  obtain ⟨cs', k1, k2, k3⟩ := zji (n := n * ei.size) (real := fun j => some (j * i.size, i.size)) hp h (fun j off ft ti hj hti => by
    simp only [oi1, pi1] at hj
    obtain ⟨rfl, rfl⟩ := hj
    rw [hei] at hti
    cases hti
    rw [hi2, h2]) parts.toList (l := _) (cs := (Array.range (n * i.size)).map (z.cells[· % z.cells.size]!)) hps hz0 (by simp [hi2, h2])
  have hrun : (execOp a.eval o).run X.P w = .ok (.value (.slice (some ⟨w.heap.size, 0, none⟩) n n)) (w.alloc (.cells cs' et)) := by
    have hbig : ¬ (n * i.size > 2 ^ 24) := by rw [hi2, ← h2]; omega
    have k1' : Instr.fill (fun j => some (j * i.size, i.size)) ((Array.range (n * i.size)).map (z.cells[· % z.cells.size]!)) (parts.map fun (i, x) => (i, a.eval x)).toList = some cs' := by
      rw [← k1]; simp
    by_cases hcz : n * i.size = 0
    . have e0 : ∀ f : Nat -> Value, Array.map f (Array.range 0) = #[] := fun f => by simp
      rw [hcz, e0] at k1'
      simp only [execOp, ho, Instr.buildSlice, Sem.run_bind, run_underlying ht, Result.andThen_ok, sizeOf, typeInfo, run_program, hi1, Sem.run_pure]
      rw [if_neg hbig, if_pos hcz]
      simp only [hcz, e0, Sem.run_bind, Sem.run_pure, Result.andThen_ok, k1']
      rfl
    . simp only [execOp, ho, Instr.buildSlice, Sem.run_bind, run_underlying ht, Result.andThen_ok, sizeOf, typeInfo, run_program, hi1, Sem.run_pure]
      rw [if_neg hbig, if_neg hcz]
      simp only [zeroValue, typeInfo, Sem.run_bind, run_program, hi1, hi4, Sem.run_pure, Result.andThen_ok, k1']
      rfl
  have hcs : RCs X ρ (flat e l) cs'.toList := by rw [← hfl]; exact k2
  have hsz := zat hcs
  rw [zab, hll] at hsz
  refine zkc (r := ⟨w.heap.size, .slice (some ⟨w.heap.size, 0, none⟩) n n, e.size, n⟩) h hmen hrun rfl ?_ ?_
  . refine zvr (cap := n) rfl rfl hll.symm (by rw [hll]) (by rw [hll]; exact Nat.le_refl _) ?_ (by simpa using hsz.symm) ?_
    . simp only [maxLen]
      have := zaK e
      rw [h2] at hn
      have := Nat.le_mul_of_pos_right n this
      omega
    . rw [hll, List.take_of_length_le (by rw [← hsz]; exact Nat.le_refl _)]
      exact zbQ (fun j hj => by rw [zbi] at hj; cases hj) hcs
  . exact (show RC X _ (.row id) _ from ⟨by rw [zac], _, _, _, rfl⟩)
end
section
variable {X : Ctx} {ρ : Nat -> RI} {s : St} {a : Act} {w : World}
def Vals : List C -> List Value -> Prop
  | [], [] => True
  | c :: l, v :: vs => c.val = some v /\ Vals l vs
  | _, _ => False
theorem zeE {l : List C} {vs : List Value} (h : Vals l vs) : RCs X ρ l vs := by
  induction l generalizing vs with
  | nil => cases vs with
    | nil => trivial
    | cons v vs => exact h.elim
  | cons c l ih => cases vs with
    | nil => exact h.elim
    | cons v vs => exact ⟨za0 h.1, ih h.2⟩
inductive OwnL (els : List (Nat × El)) (w : World) (B : Nat -> Prop) : List C -> List Value -> List Nat -> Prop
  | nil : OwnL els w B [] [] []
  | sc {c : C} {v : Value} {cs : List C} {vs : List Value} {gs : List Nat} : c.val = some v -> OwnL els w B cs vs gs -> OwnL els w B (c :: cs) (v :: vs) gs
  | len {n cap : Nat} {a : Option Addr} {cs : List C} {vs : List Value} {gs : List Nat} : OwnL els w B cs vs gs -> OwnL els w B (.len n :: cs) (.slice a n cap :: vs) gs
  | nilr {e : El} {cs : List C} {vs : List Value} {gs : List Nat} : OwnL els w B cs vs gs -> OwnL els w B (.ro e [] :: cs) (.slice none 0 0 :: vs) gs
  | view {e : El} {l : List e.T} {g cap : Nat} {ty : TypeId} {xs : Array Value} {cs : List C} {vs : List Value} {gs : List Nat} : w.heap[g]? = some (.cells xs ty (0, 0)) -> B g -> g ∉ gs -> l.length <= cap -> cap <= maxLen ->
      l.length * e.size <= xs.size -> Vals (flat e l) (xs.toList.take (l.length * e.size)) -> OwnL els w B cs vs gs -> OwnL els w B (.rop e l 0 0 :: cs) (.slice (some ⟨g, 0, none⟩) l.length cap :: vs) (g :: gs)
  | room {e : El} {l : List e.T} {g m : Nat} {ty : TypeId} {xs : Array Value} {cs : List C} {vs : List Value} {gs : List Nat} : w.heap[g]? = some (.cells xs ty (0, 0)) -> B g -> g ∉ gs -> m <= l.length -> l.length <= maxLen ->
      l.length * e.size <= xs.size -> Vals (flat e l) (xs.toList.take (l.length * e.size)) -> OwnL els w B cs vs gs -> OwnL els w B (.rop e l 1 m :: cs) (.slice (some ⟨g, 0, none⟩) m l.length :: vs) (g :: gs)
  | row {e : El} {l : List e.T} {g cap : Nat} {ty : TypeId} {xs : Array Value} {cs : List C} {vs : List Value} {gs : List Nat} : elTy e els = some ty -> w.heap[g]? = some (.cells xs ty (0, 0)) -> B g -> g ∉ gs -> l.length <= cap -> cap <= maxLen ->
      xs.size = cap * e.size -> Vals (flat e l) (xs.toList.take (l.length * e.size)) -> OwnL els w B cs vs gs -> OwnL els w B (.ro e l :: cs) (.slice (some ⟨g, 0, none⟩) l.length cap :: vs) (g :: gs)
theorem zbU {id j : Nat} {x : Ob} (hm : s.men j = false) (hj : j ≠ id) (hx : x.o.men j = false) : St.men ⟨s.tm, za5 id x s.ob⟩ j = false := by
  have hput : ∀ l : List (Nat × Ob), zbr j l = false -> zbr j (za5 id x l) = false := fun l => by
    induction l with
    | nil => intro _; simp [za5, zbr, hx, zhT (fun e => hj e.symm)]
    | cons p l ih =>
      obtain ⟨k, y⟩ := p
      intro hml
      simp only [zbr] at hml
      cases h1 : Nat.beq k j with
      | true => rw [h1] at hml; cases hml
      | false =>
        cases h2 : y.o.men j with
        | true => rw [h1, h2] at hml; cases hml
        | false =>
          rw [h1, h2] at hml
          simp only [za5]
          cases h3 : Nat.beq k id with
          | true => simp only [cond_true, zbr, hx, zhT (fun e => hj e.symm)]; exact hml
          | false => simp only [cond_false, zbr, h1, h2]; exact ih hml
  unfold St.men at *
  cases h1 : zb3 j s.tm with
  | true => rw [h1] at hm; cases hm
  | false => rw [h1] at hm; simp only [cond_false] at hm ⊢; exact hput _ hm
theorem zbt {id j : Nat} {x y : Ob} (h : St.get ⟨s.tm, za5 id x s.ob⟩ j = some y) : (j = id /\ y = x) \/ (j ≠ id /\ s.get j = some y) := by
  unfold St.get at *
  by_cases e : j = id
  . subst e; rw [zaA] at h; exact .inl ⟨rfl, by simpa using h.symm⟩
  . rw [zaJ _ _ e] at h; exact .inr ⟨e, h⟩
theorem zaC (s : St) (p : Nat × Ob) (l : List (Nat × Ob)) : s.puts (p :: l) = St.puts ⟨s.tm, za5 p.1 p.2 s.ob⟩ l := by
  obtain ⟨i, x⟩ := p; rfl
theorem zb5 (s : St) (l m : List (Nat × Ob)) : s.puts (l ++ m) = (s.puts l).puts m := by
  induction l generalizing s with
  | nil => rfl
  | cons p l ih => rw [List.cons_append, zaC, zaC, ih]
theorem zto {pd : PD} {n : Nat} {c : C} {v : Value} {d : C} {o : List (Nat × Ob)} {m : Nat} (hv : c.val = some v) (h : abC pd n c = some (d, o, m)) : d = c /\ o = [] /\ m = n := by
  cases c <;> simp [C.val] at hv <;> simp [abC] at h <;> obtain ⟨rfl, rfl, rfl⟩ := h <;> exact ⟨rfl, rfl, rfl⟩
theorem zeF {B : Nat -> Prop} (hB : ∀ g, B g -> X.w0.heap.size <= g \/ X.may g) {cs : List C} : ∀ (vs : List Value) (gs : List Nat) (n : Nat) (ds : List C) (obs : List (Nat × Ob)) (m : Nat) (s : St) (ρ : Nat -> RI), abCs X.pd n cs = some (ds, obs, m) -> OwnL X.pd.els w B cs vs gs ->
    Sim X ρ s a w -> (∀ id x, s.get id = some x -> hasB ρ id x -> (ρ id).blk ∉ gs) -> (∀ id, n <= id -> id < m -> s.men id = false) ->
    ∃ ρ', Sim X ρ' (s.puts obs) a w /\ RCs X ρ' ds vs /\ n <= m /\ (∀ id, id < n \/ m <= id -> ρ' id = ρ id) /\ (∀ j, j < n \/ m <= j -> s.men j = false -> (s.puts obs).men j = false) /\ (s.puts obs).tm = s.tm := by
  induction cs with
  | nil =>
    intro vs gs n ds obs m s ρ hab hown hs _ _
    simp [abCs] at hab
    obtain ⟨rfl, rfl, rfl⟩ := hab
    cases hown
    exact ⟨ρ, hs, trivial, Nat.le_refl _, fun _ _ => rfl, fun _ _ h => h, rfl⟩
  | cons c cs ih =>
    intro vs gs n ds obs m s ρ hab hown hs hd hm
    simp only [abCs] at hab
    cases hc : abC X.pd n c with
    | none => simp [hc] at hab
    | some p =>
      obtain ⟨d, o1, n1⟩ := p
      simp only [hc] at hab
      cases hr : abCs X.pd n1 cs with
      | none => simp [hr] at hab
      | some q =>
        obtain ⟨r, p2, k⟩ := q
        simp only [hr, oi1, pi1] at hab
        obtain ⟨rfl, rfl, rfl⟩ := hab
        cases hown with
        | sc hv hrest =>
          obtain ⟨rfl, rfl, rfl⟩ := zto hv hc
          obtain ⟨ρ', h1, h2, h3, h4, h5, h6⟩ := ih _ _ _ _ _ _ _ _ hr hrest hs hd hm
          exact ⟨ρ', h1, ⟨za0 hv, h2⟩, h3, h4, h5, h6⟩
        | @len n2 cap ad _ vs' _ hrest =>
          have hd2 : d = .len n2 /\ o1 = [] /\ n1 = n := by
            simp only [abC, oi1, pi1] at hc
            obtain ⟨rfl, rfl, rfl⟩ := hc
            exact ⟨rfl, rfl, rfl⟩
          obtain ⟨rfl, rfl, rfl⟩ := hd2
          obtain ⟨ρ', h1, h2, h3, h4, h5, h6⟩ := ih _ _ _ _ _ _ _ _ hr hrest hs hd hm
          exact ⟨ρ', h1, ⟨⟨_, _, rfl⟩, h2⟩, h3, h4, h5, h6⟩
        | @nilr e _ vs' _ hrest =>
          simp only [abC] at hc
          split at hc
          . rename_i ty hty
            simp only [oi1, pi1] at hc
            obtain ⟨rfl, rfl, rfl⟩ := hc
            have hk : n + 1 <= k := by
              have := ab_le hr
              exact this
            have hmn := hm n (Nat.le_refl _) (by omega)
            have hs1 := hs.add n ⟨true, 0, ty, .vec e []⟩ ⟨0, .slice none 0 0, e.size, 0⟩ hmn (znl rfl rfl rfl) (fun hb => by
              rcases hb with hb | hb
              . cases hb
              . rw [zac] at hb; exact absurd rfl hb)
            obtain ⟨ρ', h1, h2, h3, h4, h5, h6⟩ := ih _ _ _ _ _ _ _ _ hr hrest hs1 (fun id x hx hb => by
              rcases zbt hx with ⟨rfl, rfl⟩ | ⟨hne, hx'⟩
              . rcases hb with hb | hb
                . cases hb
                . rw [zac] at hb; exact absurd rfl hb
              . rw [zbb hne]
                refine hd id x hx' ?_
                unfold hasB at *; rwa [zbb hne] at hb) (fun id h1 h2 => zbU (hm id (by omega) h2) (by omega) rfl)
            refine ⟨ρ', by rw [List.singleton_append, zaC]; exact h1, ⟨?_, h2⟩, by omega, fun id hid => by rw [h4 id (by omega), zbb (by omega)], fun j hj hjm => by rw [List.singleton_append, zaC]; exact h5 j (by omega) (zbU hjm (by omega) rfl), by rw [List.singleton_append, zaC]; exact h6⟩
            exact ⟨by rw [h4 n (by omega), zac], none, 0, 0, rfl⟩
          . cases hc
        | @view e l g cap ty xs _ vs' gs' hg hBg hgn hcap hmax hxs hvals hrest =>
          simp only [abC] at hc
          simp only [oi1, pi1] at hc
          obtain ⟨rfl, rfl, rfl⟩ := hc
          have hk : n + 1 <= k := ab_le hr
          have hmn := hm n (Nat.le_refl _) (by omega)
          have hs1 := hs.add n ⟨false, 0, 0, .vec e l⟩ ⟨g, .bool true, e.size, l.length⟩ hmn
            ⟨by rw [zac]; rfl, by rw [zac]; rfl, (fun _ h => absurd rfl h), (fun h => by cases h), .inr ⟨xs, ty, cap, by rw [zac]; exact hg, by simp only [O.cells, zab]; exact zeE hvals, by simp only [O.cells, zab]; exact hxs, (fun _ => ⟨by simp only [O.cells, zab]; exact hxs, fun h => absurd h (show ¬ PIN <= 0 by decide)⟩), (fun h => by cases h)⟩⟩
            (fun _ => ⟨fun j y hy hb e => hd j y hy hb (by simp only at e; rw [e]; exact List.mem_cons_self), hB _ hBg⟩)
          obtain ⟨ρ', h1, h2, h3, h4, h5, h6⟩ := ih _ _ _ _ _ _ _ _ hr hrest hs1 (fun id x hx hb => by
            rcases zbt hx with ⟨rfl, rfl⟩ | ⟨hne, hx'⟩
            . rw [zac]; exact hgn
            . rw [zbb hne]
              intro hin
              refine hd id x hx' ?_ (List.mem_cons_of_mem _ hin)
              unfold hasB at *; rwa [zbb hne] at hb) (fun id h1 h2 => zbU (hm id (by omega) h2) (by omega) rfl)
          refine ⟨ρ', by rw [List.singleton_append, zaC]; exact h1, ⟨?_, h2⟩, by omega, fun id hid => by rw [h4 id (by omega), zbb (by omega)], fun j hj hjm => by rw [List.singleton_append, zaC]; exact h5 j (by omega) (zbU hjm (by omega) rfl), by rw [List.singleton_append, zaC]; exact h6⟩
          have e1 : ρ' n = ⟨g, .bool true, e.size, l.length⟩ := by rw [h4 n (by omega), zac]
          exact ⟨by rw [e1]; simp, cap, hcap, hmax, (fun hu => by rw [e1] at hu; simp [undef] at hu), .inl (by rw [e1]; simp)⟩
        | @room e l g mm ty xs _ vs' gs' hg hBg hgn hcap hmax hxs hvals hrest =>
          simp only [abC] at hc
          simp only [oi1, pi1] at hc
          obtain ⟨rfl, rfl, rfl⟩ := hc
          have hk : n + 1 <= k := ab_le hr
          have hmn := hm n (Nat.le_refl _) (by omega)
          have hs1 := hs.add n ⟨false, 0, 0, .vec e l⟩ ⟨g, .bool true, e.size, l.length⟩ hmn
            ⟨by rw [zac]; rfl, by rw [zac]; rfl, (fun _ h => absurd rfl h), (fun h => by cases h), .inr ⟨xs, ty, 0, by rw [zac]; exact hg, by simp only [O.cells, zab]; exact zeE hvals, by simp only [O.cells, zab]; exact hxs, (fun _ => ⟨by simp only [O.cells, zab]; exact hxs, fun h => absurd h (show ¬ PIN <= 0 by decide)⟩), (fun h => by cases h)⟩⟩
            (fun _ => ⟨fun j y hy hb e => hd j y hy hb (by simp only at e; rw [e]; exact List.mem_cons_self), hB _ hBg⟩)
          obtain ⟨ρ', h1, h2, h3, h4, h5, h6⟩ := ih _ _ _ _ _ _ _ _ hr hrest hs1 (fun id x hx hb => by
            rcases zbt hx with ⟨rfl, rfl⟩ | ⟨hne, hx'⟩
            . rw [zac]; exact hgn
            . rw [zbb hne]
              intro hin
              refine hd id x hx' ?_ (List.mem_cons_of_mem _ hin)
              unfold hasB at *; rwa [zbb hne] at hb) (fun id h1 h2 => zbU (hm id (by omega) h2) (by omega) rfl)
          refine ⟨ρ', by rw [List.singleton_append, zaC]; exact h1, ⟨?_, h2⟩, by omega, fun id hid => by rw [h4 id (by omega), zbb (by omega)], fun j hj hjm => by rw [List.singleton_append, zaC]; exact h5 j (by omega) (zbU hjm (by omega) rfl), by rw [List.singleton_append, zaC]; exact h6⟩
          have e1 : ρ' n = ⟨g, .bool true, e.size, l.length⟩ := by rw [h4 n (by omega), zac]
          exact ⟨hcap, hmax, by rw [e1]; simp, by rw [e1]; simp⟩
        | @row e l g cap ty xs _ vs' gs' hty hg hBg hgn hcap hmax hxs hvals hrest =>
          simp only [abC] at hc
          rw [hty] at hc
          simp only [oi1, pi1] at hc
          obtain ⟨rfl, rfl, rfl⟩ := hc
          have hk : n + 1 <= k := ab_le hr
          have hmn := hm n (Nat.le_refl _) (by omega)
          have hs1 := hs.add n ⟨true, 0, ty, .vec e l⟩ ⟨g, .slice (some ⟨g, 0, none⟩) l.length cap, e.size, l.length⟩ hmn
            ⟨by rw [zac]; rfl, by rw [zac]; rfl, (fun h => by cases h), fun _ => ⟨⟨e, l, rfl⟩, rfl⟩, .inr ⟨xs, ty, cap, by rw [zac]; exact hg, by simp only [O.cells, zab]; exact zeE hvals, by simp only [O.cells, zab, hxs]; exact Nat.mul_le_mul_right _ hcap, (fun h => by cases h), fun _ => ⟨rfl, by rw [zac]; rfl, hcap, hmax, hxs⟩⟩⟩
            (fun _ => ⟨fun j y hy hb e => hd j y hy hb (by simp only at e; rw [e]; exact List.mem_cons_self), hB _ hBg⟩)
          obtain ⟨ρ', h1, h2, h3, h4, h5, h6⟩ := ih _ _ _ _ _ _ _ _ hr hrest hs1 (fun id x hx hb => by
            rcases zbt hx with ⟨rfl, rfl⟩ | ⟨hne, hx'⟩
            . rw [zac]; exact hgn
            . rw [zbb hne]
              intro hin
              refine hd id x hx' ?_ (List.mem_cons_of_mem _ hin)
              unfold hasB at *; rwa [zbb hne] at hb) (fun id h1 h2 => zbU (hm id (by omega) h2) (by omega) rfl)
          refine ⟨ρ', by rw [List.singleton_append, zaC]; exact h1, ⟨?_, h2⟩, by omega, fun id hid => by rw [h4 id (by omega), zbb (by omega)], fun j hj hjm => by rw [List.singleton_append, zaC]; exact h5 j (by omega) (zbU hjm (by omega) rfl), by rw [List.singleton_append, zaC]; exact h6⟩
          exact ⟨by rw [h4 n (by omega), zac], _, _, _, rfl⟩
where
  ab_le {n : Nat} {cs : List C} {ds : List C} {obs : List (Nat × Ob)} {m : Nat} (h : abCs X.pd n cs = some (ds, obs, m)) : n <= m := by
    induction cs generalizing n ds obs m with
    | nil => simp [abCs] at h; omega
    | cons c cs ih =>
      simp only [abCs] at h
      cases hc : abC X.pd n c with
      | none => simp [hc] at h
      | some p =>
        obtain ⟨d, o1, n1⟩ := p
        simp only [hc] at h
        cases hr : abCs X.pd n1 cs with
        | none => simp [hr] at h
        | some q =>
          obtain ⟨r, p2, k⟩ := q
          simp only [hr, oi1, pi1] at h
          obtain ⟨_, _, rfl⟩ := h
          have := ih hr
          have h2 : n <= n1 := by
            unfold abC at hc
            split at hc <;> first | (simp only [oi1, pi1] at hc; omega) | cases hc | skip
            split at hc
            . simp only [oi1, pi1] at hc; omega
            . cases hc
          omega
end
section
variable {X : Ctx} {ρ : Nat -> RI} {s : St} {a : Act} {w : World}
def zaS (w : World) (ok : Nat -> Prop) : List C -> List Value -> Prop
  | [], [] => True
  | c :: l, v :: vs => Holds w ok c v /\ zaS w ok l vs
  | _, _ => False
def zh0 (w : World) (ok : Nat -> Prop) : U -> Value -> Prop
  | .c x, v => Holds w ok x v
  | .agg l, v => ∃ vs, v = .agg vs /\ zaS w ok l vs.toList
  | .vec e l, v => ∃ vs, v = .agg vs /\ zaS w ok (flat e l) vs.toList
  | .box _, _ => False
def zaX (w : World) (ok : Nat -> Prop) : List U -> List Value -> Prop
  | [], [] => True
  | c :: l, v :: vs => zh0 w ok c v /\ zaX w ok l vs
  | _, _ => False
inductive Split : List U -> List Value -> List Value -> Prop
  | nil : Split [] [] []
  | c {x : C} {v : Value} {us : List U} {vs cs : List Value} : Split us vs cs -> Split (.c x :: us) (v :: vs) (v :: cs)
  | agg {l : List C} {xs : Array Value} {us : List U} {vs cs : List Value} : l.length = xs.toList.length -> Split us vs cs -> Split (.agg l :: us) (.agg xs :: vs) (xs.toList ++ cs)
  | vec {e : El} {l : List e.T} {xs : Array Value} {us : List U} {vs cs : List Value} : (flat e l).length = xs.toList.length -> Split us vs cs -> Split (.vec e l :: us) (.agg xs :: vs) (xs.toList ++ cs)
def cellsOf : List U -> List C
  | [] => []
  | u :: us => u.cells ++ cellsOf us
def zeb (els : List (Nat × El)) (w : World) (B : Nat -> Prop) (us : List U) (vs : List Value) (gs : List Nat) : Prop := ∃ cs, Split us vs cs /\ OwnL els w B (cellsOf us) cs gs
def OwnP (els : List (Nat × El)) (w : World) (B : Nat -> Prop) (m : List C) (u : U) (v : Value) : Prop :=
  ∃ (g : Nat) (xs : Array Value) (ty : TypeId) (gs : List Nat), v = .pointer (some ⟨g, 0, none⟩) /\ w.heap[g]? = some (.cells xs ty (0, 0)) /\ B g /\ g ∉ gs /\
    0 < u.cells.length /\ u.cells.length <= xs.size /\ OwnL els w B u.cells (xs.toList.take u.cells.length) gs /\ ∀ e l, u = .vec e l -> ∃ n, m = [.len n] /\ l.length = n
def OwnV (els : List (Nat × El)) (w : World) (B : Nat -> Prop) : V -> Value -> Prop
  | .u x, v => ∃ gs, zeb els w B [x] [v] gs
  | .tup l, v => (∃ m u, l = [.box m, u] /\ OwnP els w B m u v) \/ ∃ vs gs, v = .tuple vs /\ zeb els w B l vs.toList gs
  | .dead, _ => True
structure Kept (w w' : World) : Prop where
  os : w'.os = w.os
  tape : w'.tape = w.tape
  output : w'.output = w.output
  size : w.heap.size <= w'.heap.size
  block : ∀ k, k < w.heap.size -> w'.heap[k]? = w.heap[k]?
def zcU (P : Program) (f : FuncId) (vs : Array Value) (w : World) (R : Value -> World -> Prop) : Prop :=
  ∀ (o : Oper) (a : Act) (K : Act -> World -> Prop) (Q : Exit -> Act -> World -> Prop), (∀ v w', R v w' -> K (a.put o.dst v) w') -> o.upon P a K Q ((callFunc f vs).run P w)
def SgAt (P : Program) (els : List (Nat × El)) (f : FuncId) (us : List U) (v : V) : Prop :=
  ∀ w vs ok, (∀ b, ok b -> b < w.heap.size) -> zaX w ok us vs -> zcU P f vs.toArray w fun x w' => OwnV els w' (fun b => w.heap.size <= b) v x /\ Kept w w'
def zjj (P : Program) (els : List (Nat × El)) (f : FuncId) (g : Sg) : Prop :=
  ∀ us r, g.run us = some r -> ∀ w vs ok, (∀ b, ok b -> b < w.heap.size) -> zaX w ok us vs ->
    zcU P f vs.toArray w fun v w' => OwnV els w' (fun b => w.heap.size <= b) (g.res r) v /\ Kept w w'
def zpK (els : List (Nat × El)) (w : World) (mode : Nat) (u : U) (v : Value) (b : Nat) (xs : Array Value) (gs : List Nat) : Prop :=
  0 < u.cells.length /\ u.cells.length <= xs.size /\ OwnL els w (fun g => g < w.heap.size /\ g ≠ b) u.cells (xs.toList.take u.cells.length) gs /\
  ((mode = 1 /\ ∃ e l cap, u = .vec e l /\ v = .slice (some ⟨b, 0, none⟩) l.length cap /\ l.length <= cap /\ cap <= maxLen) \/
    (mode = 2 /\ ∃ e l, u = .vec e l /\ v = .pointer (some ⟨b, 0, none⟩)) \/ (mode = 3 /\ ∃ l, u = .agg l /\ v = .pointer (some ⟨b, 0, none⟩)) \/ (100 < mode /\ ∃ e l, u = .vec e l /\ v = .pointer (some ⟨b, 0, none⟩) /\ l.length = mode - 100))
def zcs : List Value -> Value
  | [x] => x
  | l => .tuple l.toArray
structure KeptX (l : List Nat) (w w' : World) : Prop where
  os : w'.os = w.os
  tape : w'.tape = w.tape
  output : w'.output = w.output
  size : w.heap.size <= w'.heap.size
  block : ∀ k, k < w.heap.size -> k ∉ l -> w'.heap[k]? = w.heap[k]?
def SgIO (P : Program) (els : List (Nat × El)) (f : FuncId) (g : Sg) : Prop :=
  ∀ u us r, g.run (u :: us) = some r -> ∀ w v0 vs ok b xs ty gs, (∀ c, ok c -> c < w.heap.size /\ c ≠ b /\ c ∉ gs) -> zaX w ok us vs ->
    w.heap[b]? = some (.cells xs ty (0, 0)) -> zpK els w g.mode u v0 b xs gs ->
    zcU P f (v0 :: vs).toArray w fun v w' => ∃ (xs' : Array Value) (vals : List Value) (l : List U) (gs' : List Nat), g.res r = .tup l /\ v = zcs vals /\
      w'.heap[b]? = some (.cells xs' ty (0, 0)) /\ xs'.size = xs.size /\ zeb els w' (fun c => w.heap.size <= c \/ c ∈ gs) l (.agg (xs'.toList.take u.cells.length).toArray :: vals) gs' /\ KeptX (b :: gs) w w'
structure Hd where
  u : List C
  b : Nat
  xs : Array Value
  ty : TypeId
def Hd.ptr (h : Hd) : Value := .pointer (some ⟨h.b, 0, none⟩)
def Hd.us (l : List Hd) : List U := l.map fun h => .agg h.u
def Hd.bs (l : List Hd) : List Nat := l.map fun h => h.b
def Hd.cs : List Hd -> List C
  | [] => []
  | h :: l => h.u ++ Hd.cs l
def Hd.vs : List Hd -> List Value
  | [] => []
  | h :: l => h.xs.toList.take h.u.length ++ Hd.vs l
structure HdOK (els : List (Nat × El)) (w : World) (hs : List Hd) (gs : List Nat) : Prop where
  blk : ∀ h ∈ hs, w.heap[h.b]? = some (.cells h.xs h.ty (0, 0)) /\ 0 < h.u.length /\ h.u.length <= h.xs.size
  nd : (Hd.bs hs).Nodup
  own : OwnL els w (fun g => g < w.heap.size /\ g ∉ Hd.bs hs) (Hd.cs hs) (Hd.vs hs) gs
def zkl (w : World) : List Hd -> List (Array Value) -> Prop
  | [], [] => True
  | h :: l, y :: ys => (w.heap[h.b]? = some (.cells y h.ty (0, 0)) /\ y.size = h.xs.size) /\ zkl w l ys
  | _, _ => False
def Hd.aft : List Hd -> List (Array Value) -> List Value
  | h :: l, y :: ys => .agg (y.toList.take h.u.length).toArray :: Hd.aft l ys
  | _, _ => []
def zh1 (vs : List Value) : Prop := ∀ a b : Array Value, vs = [.agg a, .agg b] -> a.toList.getLast? = b.toList.getLast?
def SgIM (P : Program) (els : List (Nat × El)) (f : FuncId) (g : Sg) : Prop :=
  ∀ (hs : List Hd) us r, hs.length = cntM g.mode -> g.run (Hd.us hs ++ us) = some r -> ∀ w vs ok gs, (∀ c, ok c -> c < w.heap.size /\ c ∉ Hd.bs hs /\ c ∉ gs) -> zaX w ok us vs -> HdOK els w hs gs ->
    zcU P f (zbC g.mode (hs.map Hd.ptr ++ vs)).toArray w fun v w' => ∃ (ys : List (Array Value)) (vals : List Value) (l : List U) (gs' : List Nat), g.res r = .tup l /\ v = zcs vals /\
      zkl w' hs ys /\ zeb els w' (fun c => w.heap.size <= c \/ c ∈ gs) l (Hd.aft hs ys ++ vals) gs' /\ KeptX (Hd.bs hs ++ gs) w w' /\ (g.mode = 7 -> zh1 (Hd.aft hs ys ++ vals))
def zjk (P : Program) (els : List (Nat × El)) (f : FuncId) (g : Sg) : Prop :=
  (g.mode = 0 -> zjj P els f g) /\ (g.mode ≠ 0 -> isM g.mode = false -> SgIO P els f g) /\ (isM g.mode = true -> SgIM P els f g)
def zyE (P : Program) (els : List (Nat × El)) (f : FuncId) (g : Sg) : Prop :=
  ∀ ds r, g.run [.agg ds] = some r -> ∀ w b (xs : Array Value) ty ok, (∀ c, ok c -> c < w.heap.size /\ c ≠ b) -> w.heap[b]? = some (.cells xs ty (0, 0)) -> ds.length <= xs.size -> zaS w ok ds (xs.toList.take ds.length) ->
    0 < ds.length -> ds.length <= maxLen -> zcU P f #[.slice (some ⟨b, 0, none⟩) ds.length ds.length] w fun v w' => OwnV els w' (fun c => w.heap.size <= c \/ c = b) (g.res r) v /\ KeptX [b] w w'
def zyF (P : Program) (els : List (Nat × El)) (f : FuncId) (g : Sg) : Prop :=
  ∀ us r, g.run us = some r -> ∀ w vs ok, (∀ b, ok b -> b < w.heap.size) -> zaX w ok us vs ->
    zcU P f (.slice none 0 0 :: vs).toArray w fun v w' => OwnV els w' (fun b => w.heap.size <= b) (g.res r) v /\ Kept w w'
def zvt (P : Program) (els : List (Nat × El)) (f : FuncId) (g : Sg) : Prop :=
  ∀ (e : El) (l : List e.T) n us r, g.run (.c (.rop e l 1 n) :: us) = some r -> ∀ w b (xs : Array Value) ty vs ok, (∀ c, ok c -> c < w.heap.size /\ c ≠ b) -> zaX w ok us vs -> w.heap[b]? = some (.cells xs ty (0, 0)) -> l.length * e.size <= xs.size ->
    Vals (flat e l) (xs.toList.take (l.length * e.size)) -> n <= l.length -> l.length <= maxLen -> zcU P f (.slice (some ⟨b, 0, none⟩) n l.length :: vs).toArray w fun v w' => OwnV els w' (fun c => w.heap.size <= c \/ c = b) (g.res r) v /\ KeptX [b] w w'
def zpL (P : Program) (els : List (Nat × El)) (f : FuncId) (g : Sg) : Prop :=
  ∀ ds us r, g.run (.agg ds :: us) = some r -> ∀ w b (xs : Array Value) ty vs ok, (∀ c, ok c -> c < w.heap.size /\ c ≠ b) -> zaX w ok us vs -> w.heap[b]? = some (.cells xs ty (0, 0)) -> 0 < ds.length -> ds.length <= xs.size -> zaS w ok ds (xs.toList.take ds.length) ->
    zcU P f (.pointer (some ⟨b, 0, none⟩) :: vs).toArray w fun v w' => ∃ (xs' : Array Value) (vals : List Value) (l : List U) (m : List C) (gs' : List Nat), g.res r = .tup (.agg m :: l) /\ v = zcs vals /\ w'.heap[b]? = some (.cells xs' ty (0, 0)) /\ xs'.size = xs.size /\
      (m.length = ds.length -> zaS w' ok m (xs'.toList.take m.length)) /\ zeb els w' (fun c => w.heap.size <= c) l vals gs' /\ KeptX [b] w w'
def zpM (P : Program) (els : List (Nat × El)) (f : FuncId) (g : Sg) : Prop :=
  ∀ ds us r, g.run (.agg ds :: us) = some r -> ∀ w b (xs : Array Value) ty vs ok, (∀ c, ok c -> c < w.heap.size /\ c ≠ b) -> zaX w ok us vs -> w.heap[b]? = some (.cells xs ty (0, 0)) -> 0 < ds.length -> ds.length <= xs.size -> zaS w ok ds (xs.toList.take ds.length) ->
    zcU P f (.pointer (some ⟨b, 0, none⟩) :: vs).toArray w fun v w' => ∃ (xs' : Array Value) (m : List C) (e : El) (q : List e.T), g.res r = .tup [.agg m, .c (.ro e q)] /\ w'.heap[b]? = some (.cells xs' ty (0, 0)) /\ xs'.size = xs.size /\
      (m.length = ds.length -> zaS w' ok m (xs'.toList.take m.length)) /\ KeptX [b] w w' /\ (errC m = true -> Holds w' ok (.ro e q) v) /\ (errC m = false -> ∃ gs, OwnL els w' (fun c => w.heap.size <= c) [.ro e q] [v] gs)
def SgOK (P : Program) (els : List (Nat × El)) (f : Nat) (g : Sg) : Prop :=
  (f < 2000000 -> zjk P els (f % 1000000) g) /\ (f / 1000000 = 2 -> zyE P els (f % 1000000) g) /\ (f / 1000000 = 3 -> zyF P els (f % 1000000) g) /\ (f / 1000000 = 4 -> zvt P els (f % 1000000) g) /\ (f / 1000000 = 6 -> zpL P els (f % 1000000) g) /\ (f / 1000000 = 7 -> zpM P els (f % 1000000) g)
theorem SgOK.of0 {P : Program} {els : List (Nat × El)} {F n : Nat} {g : Sg} (h : zjk P els n g) (hF : F % 1000000 = n) (hG : Nat.blt F 2000000 = true) : SgOK P els F g := by
  have hG' : F < 2000000 := by simpa [Nat.blt_eq] using hG
  exact ⟨fun _ => by rw [hF]; exact h, fun e => by omega, fun e => by omega, fun e => by omega, fun e => by omega, fun e => by omega⟩
theorem zcL {id : Nat} {x : Ob} (h : RO X ρ w id x) (hp : 0 < x.o.cells.length) : hasB ρ id x := by
  cases hrow : x.row with
  | false => exact .inl hrow
  | true =>
    right
    intro hnil
    rcases h.mem with ⟨_, _, h3⟩ | ⟨vs, ty, cap, _, _, _, _, h5⟩
    . rw [h3] at hp; simp at hp
    . rw [(h5 hrow).2.1] at hnil; cases hnil
def zeG (X : Ctx) (ρ : Nat -> RI) (s : St) (H : Nat -> Prop) : Prop := (∀ j x, s.get j = some x -> hasB ρ j x -> ¬ H (ρ j).blk) /\ ∀ b, X.ok b -> ¬ H b
theorem zeG.nothing : zeG X ρ s fun _ => False := ⟨fun _ _ _ _ h => h, fun _ _ h => h⟩
theorem zpN {ok : Nat -> Prop} {l : List C} {vs : List Value} (hl : l.length = vs.length) (h : ∀ (j : Nat) (c : C) (v : Value), l[j]? = some c -> vs[j]? = some v -> Holds w ok c v) : zaS w ok l vs := by
  induction l generalizing vs with
  | nil => cases vs with
    | nil => trivial
    | cons v vs => simp at hl
  | cons c l ih => cases vs with
    | nil => simp at hl
    | cons v vs => exact ⟨h 0 c v (by simp) (by simp), ih (by simpa using hl) fun j c v h1 h2 => h (j + 1) c v (by simpa using h1) (by simpa using h2)⟩
variable {H : Nat -> Prop}
theorem zkm (h : Sim X ρ s a w) (hA : zeG X ρ s H) {c : C} {v : Value} (hh : Holds X.w0 X.ok c v) : Holds w (fun b => b < w.heap.size /\ ¬ H b) c v :=
  hh.mono fun b hb => ⟨⟨Nat.lt_of_lt_of_le hb.1 h.fr.size, hA.2 b hb⟩, h.fr.block b hb.1 hb.2.1⟩
theorem zwx (e : El) (x : e.T) : (e.toC x).all (fun c => c.val.isSome) = true := by
  cases e <;> simp [El.toC, Fr.c, C.val]
theorem zwy (e : El) (x : e.T) : ∀ c ∈ e.toC x, ∃ v, c.val = some v := fun c hc => Option.isSome_iff_exists.1 (List.all_eq_true.1 (zwx e x) c hc)
theorem zeH (e : El) (l : List e.T) : ∀ c ∈ flat e l, ∃ v, c.val = some v := by
  induction l with
  | nil => intro c hc; cases hc
  | cons x l ih =>
    intro c hc
    rcases List.mem_append.1 hc with h | h
    . exact zwy e x c h
    . exact ih c h
theorem zh2 {w' : World} {ok ok' : Nat -> Prop} {c : C} {v u : Value} (hc : c.val = some u) (h : Holds w ok c v) : Holds w' ok' c v := by
  cases h with
  | sc h => exact .sc h
  | ro => cases hc
  | emp => cases hc
  | rt => cases hc
  | rtemp => cases hc
theorem zvu (h : Sim X ρ s a w) (hA : zeG X ρ s H) {c d : C} {v : Value} (hd : reC s c = some d) (hv : RC X ρ c v) : Holds w (fun b => b < w.heap.size /\ ¬ H b) d v := by
  have hlist : ∀ (e : El) (l : List e.T), s.list c = some ⟨e, l⟩ -> (∀ r, c ≠ .str r) -> (∀ b off n cap, v = .slice (some ⟨b, off, none⟩) n cap -> l ≠ [] -> (l.length <= cap /\ cap <= maxLen) /\ ¬ H b) -> Holds w (fun b => b < w.heap.size /\ ¬ H b) (.ro e l) v := by
    intro e l hl hns hcap
    rcases zgE h hl hv with ⟨r, hr⟩ | ⟨rfl, ad, cap, rfl⟩ | ⟨b, off, cap, vs, rfl, hcs, hcell⟩
    . exact absurd hr (hns r)
    . exact .emp
    . cases l with
      | nil => exact .emp
      | cons x l =>
        obtain ⟨⟨hc1, hc2⟩, hc3⟩ := hcap b off _ cap rfl (by simp)
        have hlen := zat hcs
        have hpos : 0 < (flat e (x :: l)).length := by rw [zab]; exact Nat.mul_pos (by simp) (zaK e)
        have hget : ∀ (j : Nat) (c : C), (flat e (x :: l))[j]? = some c -> ∃ u, vs[j]? = some u /\ w.cell? ⟨b, off + j, none⟩ = some u /\ Holds w (fun b => b < w.heap.size /\ ¬ H b) c u := by
          intro j c hj
          obtain ⟨u, hu, hcu⟩ := zlF hcs j c hj
          obtain ⟨v', hv'⟩ := zeH e (x :: l) c (List.mem_of_getElem? hj)
          exact ⟨u, hu, hcell j u hu, by rw [zap hv' hcu]; exact .sc hv'⟩
        refine .ro (fun j => (w.cell? ⟨b, off + j, none⟩).getD undef) hc1 hc2 ?_ ?_ ?_
        . obtain ⟨c0, hc0⟩ : ∃ c0, (flat e (x :: l))[0]? = some c0 := ⟨_, List.getElem?_eq_getElem hpos⟩
          obtain ⟨u, _, hu, _⟩ := hget 0 c0 hc0
          unfold World.cell? at hu
          simp only at hu
          cases hb : w.heap[b]? with
          | none => simp [hb] at hu
          | some o => exact ⟨(Array.getElem?_eq_some_iff.1 hb).1, hc3⟩
        . intro j c hj
          obtain ⟨u, _, hu, _⟩ := hget j c hj
          simp only [hu, Option.getD_some]
        . intro j c hj
          obtain ⟨u, _, hu, hh⟩ := hget j c hj
          simp only [hu, Option.getD_some]; exact hh
  cases c with
  | row id =>
    simp only [reC] at hd
    split at hd
    . rename_i n ty e l hg
      simp only [oi1] at hd
      subst hd
      refine hlist e l (by simp [St.list, hg]) (fun r hr => by cases hr) (fun b off n cap hvv hne => ?_)
      rcases zb4 (h.ob _ _ hg) with ⟨_, h2⟩ | ⟨cap', h2, h3, h4⟩
      . exact absurd h2 hne
      . rw [hv.1, h2] at hvv
        cases hvv
        exact ⟨⟨h3, h4⟩, hA.1 _ _ hg (.inr (by rw [h2]; simp))⟩
    . cases hd
  | sl id i n =>
    simp only [reC] at hd
    split at hd
    . rename_i rw n' ty e l hg
      simp only [oi1] at hd
      subst hd
      refine hlist e _ (by simp [St.list, hg]) (fun r hr => by cases hr) (fun b off n0 cap hvv hne => ?_)
      obtain ⟨h1, cap', h2, h3, _, h4⟩ := hv
      rcases h4 with h4 | ⟨hn0, ad, h4⟩
      . rw [h4] at hvv
        cases hvv
        refine ⟨⟨Nat.le_trans (by simp; omega) h2, h3⟩, hA.1 _ _ hg (zcL (h.ob _ _ hg) ?_)⟩
        simp only [O.cells, zab]
        refine Nat.mul_pos ?_ (zaK e)
        cases l with
        | nil => exact absurd (by simp) hne
        | cons _ _ => simp
      . exact absurd (by rw [hn0]; simp) hne
    . cases hd
  | slc id i n cc =>
    simp only [reC] at hd
    split at hd
    . rename_i rw n' ty e l hg
      simp only [oi1] at hd
      subst hd
      refine hlist e _ (by simp [St.list, hg]) (fun r hr => by cases hr) (fun b off n0 cap hvv hne => ?_)
      obtain ⟨h2, h3, h1, h4⟩ := hv
      rw [h4] at hvv
      cases hvv
      refine ⟨⟨Nat.le_trans (by simp; omega) h2, h3⟩, hA.1 _ _ hg (zcL (h.ob _ _ hg) ?_)⟩
      simp only [O.cells, zab]
      refine Nat.mul_pos ?_ (zaK e)
      cases l with
      | nil => exact absurd (by simp) hne
      | cons _ _ => simp
    . cases hd
  | ro e l => simp only [reC, oi1] at hd; subst hd; exact zkm h hA hv
  | rt l => simp only [reC, oi1] at hd; subst hd; exact zkm h hA hv
  | u64 _ | u32 _ | u8 _ | int _ | bool _ | str _ | nilp => simp only [reC, oi1] at hd; subst hd; exact zh2 rfl hv
  | rop _ _ _ _ | rtp _ _ _ | asl _ _ _ _ | ptr _ _ _ | len _ | dead => simp [reC] at hd
theorem zpO (h : Sim X ρ s a w) (hA : zeG X ρ s H) {l d : List C} {vs : List Value} (hd : reCs s l = some d) (hv : RCs X ρ l vs) : zaS w (fun b => b < w.heap.size /\ ¬ H b) d vs := by
  induction l generalizing d vs with
  | nil => cases vs with
    | nil => simp [reCs] at hd; subst hd; trivial
    | cons v vs => exact hv.elim
  | cons c l ih => cases vs with
    | nil => exact hv.elim
    | cons v vs =>
      simp only [reCs] at hd
      cases hc : reC s c with
      | none => simp [hc] at hd
      | some c' =>
        cases hl : reCs s l with
        | none => simp [hc, hl] at hd
        | some l' =>
          simp only [hc, hl, oi1] at hd
          subst hd
          exact ⟨zvu h hA hc hv.1, ih hl hv.2⟩
theorem zlQ {w : World} {ok : Nat -> Prop} (e : El) (l : List e.T) {vs : List Value} (hv : RCs X ρ (flat e l) vs) : zaS w ok (flat e l) vs :=
  zpN (zat hv) fun j c v hc hvv => by
    obtain ⟨u, hu, hcu⟩ := zlF hv j c hc
    obtain ⟨v', hv'⟩ := zeH e l c (List.mem_of_getElem? hc)
    rw [hvv] at hu
    cases hu
    rw [zap hv' hcu]
    exact .sc hv'
theorem zyG (h : Sim X ρ s a w) (hA : zeG X ρ s H) {u d : U} {v : Value} (hd : reU s u = some d) (hv : RU X ρ u v) : zh0 w (fun b => b < w.heap.size /\ ¬ H b) d v := by
  cases u with
  | c x =>
    simp only [reU] at hd
    cases hc : reC s x with
    | none => simp [hc] at hd
    | some y => simp only [hc, oi1] at hd; subst hd; exact zvu h hA hc hv
  | agg l =>
    simp only [reU] at hd
    cases hc : reCs s l with
    | none => simp [hc] at hd
    | some y =>
      simp only [hc, oi1] at hd
      subst hd
      obtain ⟨vs, hvs, hr⟩ := hv
      exact ⟨vs, hvs, zpO h hA hc hr⟩
  | vec e l =>
    simp only [reU, oi1] at hd
    subst hd
    obtain ⟨vs, hvs, hr⟩ := hv
    exact ⟨vs, hvs, zlQ e l hr⟩
  | box l => simp [reU] at hd
theorem zcZ (h : Sim X ρ s a w) (hA : zeG X ρ s H) {args : List Operand} {ts : List TypeId} {us : List U} (hd : zb2 X.pd s args ts = some us) : zaX w (fun b => b < w.heap.size /\ ¬ H b) us (args.map a.eval) := by
  induction args generalizing ts us with
  | nil => simp [zb2] at hd; subst hd; trivial
  | cons x l ih =>
    simp only [zb2] at hd
    have hev := zck h (ts.headD 0) x
    cases hx : X.pd.ev (ts.headD 0) s x with
    | tup _ => rw [hx] at hd; cases hd
    | dead => rw [hx] at hd; cases hd
    | u u =>
      rw [hx] at hev
      rw [hx] at hd
      simp only at hd
      cases hu : reU s u with
      | none => simp [hu] at hd
      | some y =>
        cases hr : zb2 X.pd s l ts.tail with
        | none => simp [hu, hr] at hd
        | some r =>
          simp only [hu, hr, oi1] at hd
          subst hd
          exact ⟨zyG h hA hu hev, ih hr⟩
theorem zcM {us : List U} {vs cs : List Value} (h : Split us vs cs) (hc : RCs X ρ (cellsOf us) cs) : RUs X ρ us vs := by
  induction h with
  | nil => trivial
  | c _ ih => exact ⟨hc.1, ih hc.2⟩
  | @agg l xs us vs cs hl _ ih =>
    have h1 := zbe hc l.length
    have h2 := zbn hc l.length
    simp only [cellsOf, U.cells, List.take_left', List.drop_left', hl] at h1 h2
    refine ⟨⟨xs, rfl, ?_⟩, ih ?_⟩
    . simpa [← hl] using h1
    . simpa [← hl] using h2
  | @vec e l xs us vs cs hl _ ih =>
    have h1 := zbe hc (flat e l).length
    have h2 := zbn hc (flat e l).length
    simp only [cellsOf, U.cells] at h1 h2
    refine ⟨⟨xs, rfl, ?_⟩, ih ?_⟩
    . rw [List.take_left, hl, List.take_left] at h1; exact h1
    . rw [List.drop_left, hl, List.drop_left] at h2; exact h2
theorem zgL {pd : PD} {n m k : Nat} {a b r1 r2 : List C} {o1 o2 : List (Nat × Ob)} (h1 : abCs pd n a = some (r1, o1, m)) (h2 : abCs pd m b = some (r2, o2, k)) : abCs pd n (a ++ b) = some (r1 ++ r2, o1 ++ o2, k) := by
  induction a generalizing n r1 o1 with
  | nil => simp [abCs] at h1; obtain ⟨rfl, rfl, rfl⟩ := h1; simpa using h2
  | cons c a ih =>
    simp only [abCs] at h1
    cases hc : abC pd n c with
    | none => simp [hc] at h1
    | some p =>
      obtain ⟨d, o, n1⟩ := p
      simp only [hc] at h1
      cases hr : abCs pd n1 a with
      | none => simp [hr] at h1
      | some q =>
        obtain ⟨r, p2, k2⟩ := q
        simp only [hr, oi1, pi1] at h1
        obtain ⟨rfl, rfl, rfl⟩ := h1
        simp [abCs, hc, ih hr]
def C.plain : C -> Bool
  | .u64 _ | .u32 _ | .u8 _ | .int _ | .bool _ => true
  | _ => false
theorem zpP {pd : PD} {n : Nat} {c : C} (h : c.plain = true) : abC pd n c = some (c, [], n) := by
  cases c <;> simp [C.plain] at h <;> rfl
theorem zpQ (e : El) (x : e.T) : (e.toC x).all C.plain = true := by
  cases e <;> simp [El.toC, Fr.c, C.plain]
theorem zh3 {pd : PD} {n : Nat} {l : List C} (h : l.all C.plain = true) : abCs pd n l = some (l, [], n) := by
  induction l with
  | nil => rfl
  | cons c l ih =>
    simp only [List.all_cons, Bool.and_eq_true] at h
    simp [abCs, zpP h.1, ih h.2]
theorem zfm (e : El) (l : List e.T) : (flat e l).all C.plain = true := by
  induction l with
  | nil => rfl
  | cons x l ih => simp [flat, zpQ, ih]
theorem zgf {pd : PD} {n m : Nat} {l r : List C} {o : List (Nat × Ob)} (h : abCs pd n l = some (r, o, m)) : r.length = l.length := by
  induction l generalizing n r o with
  | nil => simp [abCs] at h; simp [h.1]
  | cons c l ih =>
    simp only [abCs] at h
    cases hc : abC pd n c with
    | none => simp [hc] at h
    | some p =>
      obtain ⟨d, o1, n1⟩ := p
      simp only [hc] at h
      cases hr : abCs pd n1 l with
      | none => simp [hr] at h
      | some q =>
        obtain ⟨r', p2, k⟩ := q
        simp only [hr, oi1, pi1] at h
        obtain ⟨rfl, _, rfl⟩ := h
        simp [ih hr]
theorem zc0 {pd : PD} {n m : Nat} {us rs : List U} {obs : List (Nat × Ob)} (h : abUs pd n us = some (rs, obs, m)) :
    abCs pd n (cellsOf us) = some (cellsOf rs, obs, m) /\ ∀ vs cs, Split us vs cs -> Split rs vs cs := by
  induction us generalizing n rs obs with
  | nil => simp [abUs] at h; obtain ⟨rfl, rfl, rfl⟩ := h; exact ⟨rfl, fun _ _ h => h⟩
  | cons u us ih =>
    simp only [abUs] at h
    cases hc : abU pd n u with
    | none => simp [hc] at h
    | some p =>
      obtain ⟨d, o, n1⟩ := p
      simp only [hc] at h
      cases hr : abUs pd n1 us with
      | none => simp [hr] at h
      | some q =>
        obtain ⟨r, p2, k⟩ := q
        simp only [hr, oi1, pi1] at h
        obtain ⟨rfl, rfl, rfl⟩ := h
        obtain ⟨ih1, ih2⟩ := ih hr
        cases u with
        | c x =>
          simp only [abU] at hc
          cases hx : abC pd n x with
          | none => simp [hx] at hc
          | some p =>
            obtain ⟨y, o', n'⟩ := p
            simp only [hx, oi1, pi1] at hc
            obtain ⟨rfl, rfl, rfl⟩ := hc
            refine ⟨by simp [cellsOf, U.cells, abCs, hx, ih1], fun vs cs hs => ?_⟩
            cases hs with
            | c hs => exact .c (ih2 _ _ hs)
        | agg l =>
          simp only [abU] at hc
          cases hx : abCs pd n l with
          | none => simp [hx] at hc
          | some p =>
            obtain ⟨y, o', n'⟩ := p
            simp only [hx, oi1, pi1] at hc
            obtain ⟨rfl, rfl, rfl⟩ := hc
            refine ⟨zgL hx ih1, fun vs cs hs => ?_⟩
            cases hs with
            | agg hl hs => exact .agg (by rw [zgf hx, hl]) (ih2 _ _ hs)
        | vec e l =>
          simp only [abU, oi1, pi1] at hc
          obtain ⟨rfl, rfl, rfl⟩ := hc
          refine ⟨zgL (zh3 (zfm e l)) ih1, fun vs cs hs => ?_⟩
          cases hs with
          | vec hl hs => exact .vec hl (ih2 _ _ hs)
        | box l => simp [abU] at hc
theorem ztp {els : List (Nat × El)} {B : Nat -> Prop} {cs : List C} {vs : List Value} {gs : List Nat} (h : OwnL els w B cs vs gs) : ∀ g ∈ gs, B g := by
  induction h with
  | nil => intro g hg; cases hg
  | sc _ _ ih => exact ih
  | nilr _ ih => exact ih
  | len _ ih => exact ih
  | row _ _ hb _ _ _ _ _ _ ih => intro g hg; rcases List.mem_cons.1 hg with e | hg <;> first | (rw [e]; exact hb) | exact ih g hg
  | view _ hb _ _ _ _ _ _ ih => intro g hg; rcases List.mem_cons.1 hg with e | hg <;> first | (rw [e]; exact hb) | exact ih g hg
  | room _ hb _ _ _ _ _ _ ih => intro g hg; rcases List.mem_cons.1 hg with e | hg <;> first | (rw [e]; exact hb) | exact ih g hg
theorem zok {els : List (Nat × El)} {B : Nat -> Prop} {cs : List C} {vs : List Value} {gs : List Nat} (h : OwnL els w B cs vs gs) (hc : cs.all C.plain = true) : RCs X ρ cs vs := by
  induction h with
  | nil => trivial
  | sc h _ ih => simp only [List.all_cons, Bool.and_eq_true] at hc; exact ⟨za0 h, ih hc.2⟩
  | nilr _ _ => simp [C.plain] at hc
  | len _ _ => simp [C.plain] at hc
  | row _ _ _ _ _ _ _ _ _ _ => simp [C.plain] at hc
  | view _ _ _ _ _ _ _ _ _ => simp [C.plain] at hc
  | room _ _ _ _ _ _ _ _ _ => simp [C.plain] at hc
theorem zpR (j n : Nat) : anyC (C.men j) (List.replicate n C.dead) = false := by
  induction n with
  | zero => rfl
  | succ n ih => simp [List.replicate_succ, anyC, C.men, ih]
theorem znq : ∀ (n : Nat) (vs : List Value), vs.length = n -> RCs X ρ (List.replicate n C.dead) vs
  | 0, [], _ => trivial
  | n + 1, v :: vs, h => ⟨trivial, znq n vs (by simpa using h)⟩
theorem zyH {B : Nat -> Prop} {n k : Nat} (hB : ∀ g, B g -> X.w0.heap.size <= g \/ X.may g) {m : List C} {u : U} {val : Value} {r : V} {obs : List (Nat × Ob)} (hab : abP X.pd n m u = some (r, obs, k)) (hown : OwnP X.pd.els w B m u val)
    (hs : Sim X ρ s a w) (hd : ∀ id x, s.get id = some x -> hasB ρ id x -> ¬ B (ρ id).blk) (hm : ∀ id, n <= id -> id < k -> s.men id = false) :
    ∃ ρ', Sim X ρ' (s.puts obs) a w /\ RV X ρ' r val /\ (s.puts obs).tm = s.tm := by
  obtain ⟨g, xs, ty, gs, rfl, hg, hBg, hgn, hpos, hle, hol, hvec⟩ := hown
  cases u with
  | c x => cases hab
  | box l => cases hab
  | vec e l =>
    obtain ⟨j, rfl, hj⟩ := hvec e l rfl
    simp only [abP, oi1, pi1] at hab
    obtain ⟨rfl, rfl, rfl⟩ := hab
    simp only [U.cells] at hpos hle hol
    have hs1 := hs.add n ⟨false, j, 0, .vec e l⟩ ⟨g, undef, e.size, l.length⟩ (hm n (Nat.le_refl _) (by omega))
      ⟨by rw [zac]; rfl, by rw [zac]; rfl, (fun _ _ e' l' hh => by cases hh; exact ⟨hj, by rw [zac]⟩), (fun h => by cases h), .inr ⟨xs, ty, 0, by rw [zac]; exact hg, by simp only [O.cells]; exact zok hol (zfm e l), by simp only [O.cells]; exact hle, (fun _ => ⟨by simp only [O.cells]; exact hle, fun h => absurd h (show ¬ PIN <= 0 by decide)⟩), (fun h => by cases h)⟩⟩
      (fun _ => ⟨fun j y hy hb e => hd j y hy hb (by simp only at e; rw [e]; exact hBg), hB _ hBg⟩)
    refine ⟨_, hs1, ?_, rfl⟩
    have hl : 0 < l.length := by
      rw [zab] at hpos
      exact Nat.pos_of_mul_pos_right hpos
    exact ⟨by rw [zac]; exact hl, by rw [zac]; exact zaK e, by rw [zac]; simp⟩
  | agg l =>
    simp only [abP] at hab
    cases hx : abCs X.pd (n + 1) l with
    | none => simp [hx] at hab
    | some p =>
      obtain ⟨ds, o, k'⟩ := p
      simp only [hx, oi1, pi1] at hab
      obtain ⟨rfl, rfl, rfl⟩ := hab
      simp only [U.cells] at hpos hle hol
      have hk : n + 1 <= k' := zeF.ab_le hx
      have hlen := zgf hx
      have hs1 := hs.add n ⟨false, 0, 0, .lit (List.replicate l.length .dead)⟩ ⟨g, undef, l.length, 1⟩ (hm n (Nat.le_refl _) (by omega))
        ⟨by rw [zac]; simp [O.sz], by rw [zac]; rfl, (fun _ h => absurd rfl h), (fun h => by cases h), .inr ⟨xs, ty, 0, by rw [zac]; exact hg, by simp only [O.cells, List.length_replicate]; exact znq _ _ (by simp only [List.length_take, Array.length_toList]; omega), by simp only [O.cells, List.length_replicate]; exact hle, (fun _ => ⟨by simp only [O.cells, List.length_replicate]; exact hle, fun h => absurd h (show ¬ PIN <= 0 by decide)⟩), (fun h => by cases h)⟩⟩
        (fun _ => ⟨fun j y hy hb e => hd j y hy hb (by simp only at e; rw [e]; exact hBg), hB _ hBg⟩)
      obtain ⟨ρ', h1, h2, h3, h4, h5, h6⟩ := zeF hB _ gs (n + 1) _ _ _ _ _ hx hol hs1 (fun id x hx' hb => by
        rcases zbt hx' with ⟨rfl, rfl⟩ | ⟨hne, hx''⟩
        . rw [zac]; exact hgn
        . rw [zbb hne]
          intro hin
          refine hd id x hx'' ?_ (ztp hol _ hin)
          unfold hasB at *; rwa [zbb hne] at hb) (fun id h1 h2 => zbU (hm id (by omega) h2) (by omega) (zpR _ _))
      have e1 : ρ' n = ⟨g, undef, l.length, 1⟩ := by rw [h4 n (by omega), zac]
      have hget : ∃ x, St.get (St.puts ⟨s.tm, za5 n ⟨false, 0, 0, .lit (List.replicate l.length .dead)⟩ s.ob⟩ o) n = some x /\ x.row = false :=
        get_puts (ab_low hx) (s := ⟨s.tm, za5 n ⟨false, 0, 0, .lit (List.replicate l.length .dead)⟩ s.ob⟩) (x := ⟨false, 0, 0, .lit (List.replicate l.length .dead)⟩) (by unfold St.get; exact zaA _ _ _)
      obtain ⟨x0, hx0, hrow0⟩ := hget
      have hs2 := h1.store n x0 ⟨false, 0, 0, .lit ds⟩ hx0 (w' := w) (.inl hrow0) (.inl rfl)
        ⟨by rw [e1]; simp [O.sz, hlen], by rw [e1]; rfl, (fun _ h => absurd rfl h), (fun h => by cases h), .inr ⟨xs, ty, 0, by rw [e1]; exact hg, by simp only [O.cells, hlen]; exact h2, by simp only [O.cells, hlen]; exact hle, (fun _ => ⟨by simp only [O.cells, hlen]; exact hle, fun h => absurd h (show ¬ PIN <= 0 by decide)⟩), (fun h => by cases h)⟩⟩
        (fun _ _ => rfl) ⟨rfl, rfl, rfl, rfl⟩
      rw [zaC, zb5, zaC]
      refine ⟨ρ', hs2, ?_, h6⟩
      exact ⟨by rw [e1]; exact Nat.one_pos, by rw [e1]; exact hpos, by rw [e1]; simp⟩
where
  ab_low {n : Nat} {cs : List C} {ds : List C} {obs : List (Nat × Ob)} {m : Nat} (h : abCs X.pd (n + 1) cs = some (ds, obs, m)) : ∀ p ∈ obs, p.1 ≠ n := by
    have key : ∀ (cs : List C) (n0 : Nat) (ds : List C) (obs : List (Nat × Ob)) (m : Nat), n < n0 -> abCs X.pd n0 cs = some (ds, obs, m) -> ∀ p ∈ obs, p.1 ≠ n := by
      intro cs
      induction cs with
      | nil => intro n0 ds obs m _ h; simp [abCs] at h; obtain ⟨_, rfl, _⟩ := h; intro p hp; cases hp
      | cons c cs ih =>
        intro n0 ds obs m hn h
        simp only [abCs] at h
        cases hc : abC X.pd n0 c with
        | none => simp [hc] at h
        | some p =>
          obtain ⟨d, o1, n1⟩ := p
          simp only [hc] at h
          cases hr : abCs X.pd n1 cs with
          | none => simp [hr] at h
          | some q =>
            obtain ⟨r, p2, k⟩ := q
            simp only [hr, oi1, pi1] at h
            obtain ⟨_, rfl, _⟩ := h
            have h2 : n0 <= n1 /\ ∀ p ∈ o1, p.1 = n0 := by
              unfold abC at hc
              split at hc <;> first | (simp only [oi1, pi1] at hc; obtain ⟨_, rfl, rfl⟩ := hc; simp) | cases hc | skip
              split at hc
              . simp only [oi1, pi1] at hc; obtain ⟨_, rfl, rfl⟩ := hc; simp
              . cases hc
            intro p hp
            rcases List.mem_append.1 hp with hp | hp
            . rw [h2.2 p hp]; omega
            . exact ih n1 _ _ _ (by omega) hr p hp
    exact key cs (n + 1) ds obs m (Nat.lt_succ_self n) h
  get_puts {o : List (Nat × Ob)} {n : Nat} (ho : ∀ p ∈ o, p.1 ≠ n) {s : St} {x : Ob} (h : s.get n = some x) : ∃ y, (s.puts o).get n = some y /\ y.row = x.row := by
    induction o generalizing s with
    | nil => exact ⟨x, h, rfl⟩
    | cons p o ih =>
      rw [zaC]
      refine ih (fun q hq => ho q (List.mem_cons_of_mem _ hq)) ?_
      unfold St.get at *
      rw [zaJ _ _ (fun e => ho p List.mem_cons_self e.symm)]
      exact h
theorem zbV {B : Nat -> Prop} {n m : Nat} (hB : ∀ g, B g -> X.w0.heap.size <= g \/ X.may g) {v : V} {val : Value} {r : V} {obs : List (Nat × Ob)} (hab : abV X.pd n v = some (r, obs, m)) (hown : OwnV X.pd.els w B v val)
    (hs : Sim X ρ s a w) (hd : ∀ id x, s.get id = some x -> hasB ρ id x -> ¬ B (ρ id).blk) (hm : ∀ id, n <= id -> id < m -> s.men id = false) :
    ∃ ρ', Sim X ρ' (s.puts obs) a w /\ RV X ρ' r val /\ (s.puts obs).tm = s.tm := by
  have key : ∀ (us rs : List U) (vs : List Value) (gs : List Nat), abUs X.pd n us = some (rs, obs, m) -> zeb X.pd.els w B us vs gs -> ∃ ρ', Sim X ρ' (s.puts obs) a w /\ RUs X ρ' rs vs /\ (s.puts obs).tm = s.tm := by
    intro us rs vs gs hab ⟨cs, hsp, ho⟩
    obtain ⟨h1, h2⟩ := zc0 hab
    obtain ⟨ρ', g1, g2, _, _, _, g6⟩ := zeF hB cs gs n _ obs m s ρ h1 ho hs (fun id x hx hb hin => by
      exact hd id x hx hb (own_ge ho _ hin)) hm
    exact ⟨ρ', g1, zcM (h2 _ _ hsp) g2, g6⟩
  cases v with
  | u x =>
    simp only [abV] at hab
    cases hx : abU X.pd n x with
    | none => simp [hx] at hab
    | some p =>
      obtain ⟨y, o, k⟩ := p
      simp only [hx, oi1, pi1] at hab
      obtain ⟨rfl, rfl, rfl⟩ := hab
      obtain ⟨gs, ho⟩ := hown
      obtain ⟨ρ', h1, h2, h3⟩ := key [x] [y] [val] gs (by simp [abUs, hx]) ho
      exact ⟨ρ', h1, h2.1, h3⟩
  | tup l =>
    simp only [abV] at hab
    split at hab
    . rename_i mk u
      rcases hown with ⟨m', u', hl, hP⟩ | ⟨vs, gs, hval, cs, hsp, _⟩
      . simp only [List.cons.injEq, U.box.injEq, and_true] at hl
        obtain ⟨rfl, rfl⟩ := hl
        obtain ⟨ρ', g1, g2, g3⟩ := zyH hB hab hP hs hd hm
        exact ⟨ρ', g1, g2, g3⟩
      . cases hsp
    . rename_i hne
      rcases hown with ⟨m', u', hl, _⟩ | ⟨vs, gs, hval, ho⟩
      . exact absurd hl (hne m' u')
      cases hx : abUs X.pd n l with
      | none => simp [hx] at hab
      | some p =>
        obtain ⟨y, o, k⟩ := p
        simp only [hx, oi1, pi1] at hab
        obtain ⟨rfl, rfl, rfl⟩ := hab
        obtain ⟨ρ', h1, h2, h3⟩ := key l y vs.toList gs hx ho
        exact ⟨ρ', h1, ⟨vs, hval, h2⟩, h3⟩
  | dead =>
    simp only [abV, oi1, pi1] at hab
    obtain ⟨rfl, rfl, rfl⟩ := hab
    exact ⟨ρ, hs, trivial, rfl⟩
where
  own_ge {els : List (Nat × El)} {cs : List C} {vs : List Value} {gs : List Nat} (h : OwnL els w B cs vs gs) : ∀ g ∈ gs, B g := by
    induction h with
    | nil => intro g hg; cases hg
    | sc _ _ ih => exact ih
    | nilr _ ih => exact ih
    | len _ ih => exact ih
    | row _ _ hb _ _ _ _ _ _ ih => intro g hg; rcases List.mem_cons.1 hg with e | hg <;> first | (rw [e]; exact hb) | exact ih g hg
    | view _ hb _ _ _ _ _ _ ih => intro g hg; rcases List.mem_cons.1 hg with e | hg <;> first | (rw [e]; exact hb) | exact ih g hg
    | room _ hb _ _ _ _ _ _ ih => intro g hg; rcases List.mem_cons.1 hg with e | hg <;> first | (rw [e]; exact hb) | exact ih g hg
theorem Kept.frm {w' : World} (h : Frm X w) (hk : Kept w w') : Frm X w' :=
  ⟨by rw [hk.os]; exact h.os, by rw [hk.tape]; exact h.tape, by rw [hk.output]; exact h.output, Nat.le_trans h.size hk.size, fun k h1 h2 => by rw [hk.block k (Nat.lt_of_lt_of_le h1 h.size)]; exact h.block k h1 h2⟩
theorem za9 {p : Nat -> Bool} {n k : Nat} (h : anyN p (List.range' n k) = false) {i : Nat} (h1 : n <= i) (h2 : i < n + k) : p i = false := by
  induction k generalizing n with
  | zero => omega
  | succ k ih =>
    simp only [List.range'_succ, anyN] at h
    cases hp : p n with
    | true => simp [hp] at h
    | false =>
      simp only [hp, cond_false] at h
      by_cases e : i = n
      . rw [e]; exact hp
      . exact ih h (by omega) (by omega)
theorem zpS {o : Oper} (f : FuncId) (args : Array Operand) (ts : Array TypeId) (ho : o.op = .call ⟨.value (.func f), args, ts⟩) {g : Sg} {us : List U} {r : g.R} (hg : SgAt X.P X.pd.els f us (g.res r)) {v : V} {obs : List (Nat × Ob)} {n : Nat} {rd : List Nat}
    (hus : zb2 X.pd s args.toList ts.toList = some us) (hab : abV X.pd (site o) (g.res r) = some (v, obs, n)) :
    Does X o s ⟨o.dst, v, obs, [], List.range' (site o) (n - site o), rd⟩ := by
  intro ρ a w Q h hnew
  unfold Oper.wp
  have h1 : (execOp a.eval o).run X.P w = (callFunc f (args.map a.eval)).run X.P w := by
    simp [execOp, ho, resolve, Deferred.ofValue, invoke, Act.eval]
  rw [h1]
  have h2 := hg w (args.toList.map a.eval) (fun b => b < w.heap.size /\ ¬ False) (fun b hb => hb.1) (zcZ h zeG.nothing hus)
  rw [← Array.toList_map, Array.toArray_toList] at h2
  refine h2 o a _ Q fun val w' ⟨hown, hk⟩ => ?_
  have hs1 : Sim X ρ s a w' := h.world (fun id x hx hb => hk.block _ (h.lt hx hb)) (hk.frm h.fr)
  obtain ⟨ρ', g1, g2, g3⟩ := zbV (fun g hg => .inl (Nat.le_trans h.fr.size hg)) hab hown hs1 (fun id x hx hb => Nat.not_le.2 (h.lt hx hb)) (fun id h1 h2 => za9 hnew h1 (by omega))
  refine ⟨ρ', ?_⟩
  cases hd : o.dst with
  | none => simpa [Eff.app, St.dels, Act.put] using g1
  | some d => simpa [Eff.app, St.dels] using g1.set d g2
end
section
variable {X : Ctx} {ρ : Nat -> RI} {s : St} {a : Act} {w : World}
theorem Sim.same (h : Sim X ρ s a w) {s' : St} (ht : s'.tm = s.tm) (hg : ∀ j, s'.get j = s.get j) : Sim X ρ s' a w :=
  ⟨by rw [ht]; exact h.tm, by rw [ht]; exact h.sz, h.df, fun id x hx => h.ob id x (by rw [← hg]; exact hx), fun i j x y hx hy => h.inj i j x y (by rw [← hg]; exact hx) (by rw [← hg]; exact hy), fun id x hx => h.own id x (by rw [← hg]; exact hx), h.fr⟩
theorem znr {id : Nat} {y : Ob} {vs : Array Value} {ty : TypeId} (hro : RO X ρ w id y) (hB : hasB ρ id y) (hm : w.heap[(ρ id).blk]? = some (.cells vs ty (0, 0))) (o' : O) (off : Nat) {us : List Value} {cs : List C} (hc : RCs X ρ cs us)
    (hcells : o'.cells = zan y.o.cells off cs) (hfit : off + cs.length <= y.o.cells.length) (hsz : o'.sz = y.o.sz) (hlen : o'.len = y.o.len) (hvec : ∀ e l, y.o = .vec e l -> ∃ l', o' = .vec e l' /\ l'.length = l.length) (hlit : ∀ l, y.o = .lit l -> ∃ l', o' = .lit l') :
    RO X ρ (w.setRow (ρ id).blk (zan vs.toList off us).toArray) id ⟨y.row, y.n, y.ty, o'⟩ := by
  rcases hro.mem with ⟨hrow, hval', _⟩ | ⟨vs', ty', cap, hm1, hm2, hm3, hm4, hm5⟩
  . rcases hB with hb | hb
    . rw [hrow] at hb; cases hb
    . exact absurd hval' hb
  . rw [hm] at hm1
    cases hm1
    have hl := zat hc
    have hsplen : (zan vs.toList off us).length = vs.size := by
      rw [zaH _ _ _ (by simp; omega)]; simp
    have ho'len : o'.cells.length = y.o.cells.length := by rw [hcells, zaH _ _ _ hfit]
    refine ⟨by simp only [hsz]; exact hro.sz, by simp only [hlen]; exact hro.len, fun hrow hn0 e l he => ?_, fun hrow => ?_, .inr ⟨_, ty, cap, setRow_heap w _ vs _ ty _ hm, ?_, ?_, fun hrow => ?_, fun hrow => ?_⟩⟩
    . cases hyo : y.o with
      | lit l0 =>
        obtain ⟨l', hl'⟩ := hlit l0 hyo
        simp only at he
        rw [hl'] at he; cases he
      | vec e0 l0 =>
        obtain ⟨l', he', hl'⟩ := hvec e0 l0 hyo
        simp only at he
        rw [he'] at he
        cases he
        rw [hl']
        exact hro.n hrow hn0 _ _ hyo
    . obtain ⟨⟨e0, l0, hyo⟩, hn⟩ := hro.vec hrow
      obtain ⟨l', he', _⟩ := hvec e0 l0 hyo
      exact ⟨⟨e0, l', he'⟩, hn⟩
    . simp only [ho'len]
      rw [hcells]
      have e1 : (zan vs.toList off us).toArray.toList.take y.o.cells.length = zan (vs.toList.take y.o.cells.length) off us := by
        simp only [zan]
        apply List.ext_getElem?
        intro j
        simp only [List.getElem?_append, List.length_take, List.length_drop, List.getElem?_take, List.getElem?_drop, Array.length_toList]
        grind
      rw [e1]
      exact zfe hm2 hc _
    . simp only [ho'len, List.size_toArray, hsplen]; exact hm3
    . simp only [ho'len, List.size_toArray, hsplen]; exact hm4 hrow
    . have := hm5 hrow
      simp only [hsz, hlen, List.size_toArray, hsplen]
      exact this
theorem zgM {els : List (Nat × El)} {B : Nat -> Prop} {vs : List Value} {cs : List C} (h : zhV vs cs) : OwnL els w B cs vs [] := by
  induction cs generalizing vs with
  | nil => cases vs with
    | nil => exact .nil
    | cons v vs => exact h.elim
  | cons c cs ih => cases vs with
    | nil => exact h.elim
    | cons v vs =>
      obtain ⟨h1, h2⟩ := h
      unfold zpx at h1
      split at h1
      . subst h1; exact .nilr (ih h2)
      . exact .sc h1 (ih h2)
theorem zwz {pd : PD} {n m id : Nat} {c d : C} {o : List (Nat × Ob)} (h : abC pd n c = some (d, o, m)) (hid : id < n) : d.men id = false := by
  unfold abC at h
  split at h
  . split at h
    . simp only [oi1, pi1] at h
      obtain ⟨rfl, _, _⟩ := h
      exact zhT (by omega)
    . cases h
  . simp only [oi1, pi1] at h
    obtain ⟨rfl, _, _⟩ := h
    exact zhT (by omega)
  . simp only [oi1, pi1] at h
    obtain ⟨rfl, _, _⟩ := h
    exact zhT (by omega)
  all_goals first | (cases h; done) | skip
  rename_i h1 h2 h3 h4 h5 h6 h7 h8 h9 h10 h11 h12 h13
  simp only [oi1, pi1] at h
  obtain ⟨rfl, _, _⟩ := h
  cases c <;> first | rfl | (exact absurd rfl (h4 _)) | (exact absurd rfl (h5 _ _ _)) | (exact absurd rfl (h6 _ _ _ _)) | (exact absurd rfl (h7 _ _ _)) | (exact absurd rfl (h9 _ _ _ _))
theorem ztq {pd : PD} {n m id : Nat} {l r : List C} {o : List (Nat × Ob)} (h : abCs pd n l = some (r, o, m)) (hid : id < n) : anyC (C.men id) r = false := by
  induction l generalizing n r o with
  | nil => simp [abCs] at h; rw [h.1]; rfl
  | cons c l ih =>
    simp only [abCs] at h
    cases hc : abC pd n c with
    | none => simp [hc] at h
    | some p =>
      obtain ⟨d, o1, n1⟩ := p
      simp only [hc] at h
      cases hr : abCs pd n1 l with
      | none => simp [hr] at h
      | some q =>
        obtain ⟨r', p2, k⟩ := q
        simp only [hr, oi1, pi1] at h
        obtain ⟨rfl, _, rfl⟩ := h
        have hn1 : n <= n1 := by
          have := zeF.ab_le (X := ⟨default, pd, default, fun _ => False, fun _ => (0, 0, 0, 0), fun _ => True⟩) (cs := [c]) (ds := [d]) (obs := o1) (m := n1) (n := n) (by simp [abCs, hc])
          exact this
        simp only [anyC, zwz hc hid, cond_false]
        exact ih hr (by omega)
theorem zol {o : Oper} (hp : PDok X.P X.pd) (t : TypeId) (ho : o.op = .alloc t) (hpos : X.pd.pos t = true) {u u' : U} {obs : List (Nat × Ob)} {n id : Nat} {y : Ob} {rd : List Nat}
    (hz : X.pd.zero t = some u) (hab : abU X.pd (id + 1) u = some (u', obs, n)) (hy : X.pd.newOb t u' = some (true, y)) : Does X o s ⟨o.dst, .u (.c (.ptr id 0 0)), obs ++ [(id, y)], [], List.range' id (n - id), rd⟩ := by
  intro ρ a w Q h hnew
  unfold PD.zero at hz
  unfold PD.pos at hpos
  cases hti : X.pd.ti t with
  | none => simp [hti] at hz
  | some ti =>
    simp only [hti, Nat.blt_eq] at hz hpos
    have hTI := hp.ti _ _ hti
    obtain ⟨i, z, hi1, hi2, hi3, hi4, hi5, hi6, hi7⟩ := hTI.info
    have hzs := hTI.size
    have hmk := zi9 hz
    have habc : abUs X.pd (id + 1) [u] = some ([u'], obs, n) := by simp [abUs, hab]
    obtain ⟨h1, h2⟩ := zc0 habc
    simp only [cellsOf, List.append_nil] at h1
    have hucells : u.cells = ti.zero := by
      obtain ⟨_, _, h, _⟩ := hmk
      exact h
    rw [hucells] at h1
    have hle : id + 1 <= n := zeF.ab_le h1
    obtain ⟨ρ1, g1, g2, g3, g4, g5, g6⟩ := zeF (w := w) (a := a) (B := fun g => X.w0.heap.size <= g) (fun _ h => .inl h) z.cells.toList [] (id + 1) _ obs n s ρ h1 (zgM hi5) h (fun id x hx hb => by simp) (fun j h1 h2 => za9 hnew (by omega) (by omega))
    obtain ⟨n1, n2, n3, n4, n5⟩ := znk hp hti hy
    have hmid : s.men id = false := za9 hnew (by omega) (by omega)
    have hmid1 := g5 id (by omega) hmid
    have hpp := zlI (x := y) (by rw [n1, n2]; exact hpos)
    have hu'men : anyC (C.men id) u'.cells = false := by
      have := ztq h1 (by omega : id < id + 1)
      exact this
    have hro := zpC (X := X) (ρ := ρ1) (id := id) (w := w) (ty := t) (r := ⟨w.heap.size, undef, y.o.sz, y.o.len⟩) (vs := z.cells.toList) n3 n4 n5 rfl rfl rfl (by
      rw [n1]
      refine zdk (fun j hj e => ?_) g2
      subst e
      rw [hu'men] at hj; cases hj)
    have hrun : (execOp a.eval o).run X.P w = .ok (.value (.pointer (some ⟨w.heap.size, 0, none⟩))) (w.alloc (.cells z.cells t)) := by
      simp [execOp, ho, Instr.alloc, newVar, newRow, newObj, zeroValue, typeInfo, run_program, hi1, hi4]
      rfl
    have g7 : Sim X ρ1 (s.puts obs) a (w.alloc (.cells z.cells t)) := g1.alloc _
    have hadd := g7.add id y ⟨w.heap.size, undef, y.o.sz, y.o.len⟩ hmid1 (by simpa using hro) (fun _ => ⟨fun j x hx hb => by have := g1.lt hx hb; simp only; omega, .inl h.fr.size⟩)
    unfold Oper.wp
    rw [hrun]
    refine ⟨upd ρ1 id ⟨w.heap.size, undef, y.o.sz, y.o.len⟩, ?_⟩
    have hput : s.puts (obs ++ [(id, y)]) = ⟨(s.puts obs).tm, za5 id y (s.puts obs).ob⟩ := by rw [zb5]; rfl
    cases hd : o.dst with
    | none => simpa [Eff.app, St.dels, Act.put, hput] using hadd
    | some d =>
      have := hadd.set d (v := .u (.c (.ptr id 0 0))) (x := .pointer (some ⟨w.heap.size, 0, none⟩)) (show RC X _ (.ptr id 0 0) _ from by
        simp only [RC, zac]
        exact ⟨hpp.1, hpp.2, by simp⟩)
      simpa [Eff.app, St.dels, hput] using this
end
end Go.Proofs.Ytgimohchocjgcaa.V
