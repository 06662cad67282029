/- Where indices, fields and parts lead. -/
import Derived.Test.YtgimohchocjgcaaVM
set_option linter.unusedVariables false
set_option linter.unusedSimpArgs false
namespace Go.Proofs.Ytgimohchocjgcaa.V

variable {X : Ctx} {ρ : Nat → RI} {s : St} {a : Act} {w : World}

theorem elIs_spec {pd : PD} {P : Program} (hp : PDok P pd) {t : TypeId} {e : El} (h : pd.elIs t e = true) : ∃ ti, pd.ti t = some ti ∧ ti.size = e.size ∧ pd.el t = some e := by
  unfold PD.elIs at h
  split at h
  · rename_i g hg
    have := idx_inj h
    subst this
    obtain ⟨ti, h1, h2, _⟩ := hp.el _ _ hg
    exact ⟨ti, h1, h2, hg⟩
  · cases h

theorem slIs_spec {pd : PD} {P : Program} (hp : PDok P pd) {t : TypeId} {e : El} (h : pd.slIs t e = true) : ∃ et ei, P.underlying t = some (.slice et) ∧ pd.ti et = some ei ∧ ei.size = e.size ∧ pd.el et = some e := by
  unfold PD.slIs at h
  split at h
  · rename_i et sz by' z h1
    obtain ⟨ei, h2, h3, h4⟩ := elIs_spec hp h
    exact ⟨et, ei, (hp.ti _ _ h1).kind, h2, h3, h4⟩
  · cases h

theorem beq4 {x y z u : Bool} (h : (x && (y && (z && u))) = true) : x = true ∧ y = true ∧ z = true ∧ u = true := by
  simpa [Bool.and_eq_true] using h

theorem in_spec {n : Int} {m : Nat} (h : (leI 0 n && ltI n m) = true) : ∃ k : Nat, n = k ∧ k < m := by
  simp only [leI, ltI, Bool.and_eq_true, decide_eq_true_eq] at h
  exact ⟨n.toNat, by omega, by omega⟩

/-- What a list's value is. -/
theorem row_val {id : Nat} {n : Nat} {ty : TypeId} {e : El} {l : List e.T} (h : RO X ρ w id ⟨true, n, ty, .vec e l⟩) :
    ((ρ id).val = .slice none 0 0 ∧ l = []) ∨ ∃ cap, (ρ id).val = .slice (some ⟨(ρ id).blk, 0, none⟩) l.length cap ∧ l.length ≤ cap ∧ cap ≤ maxLen := by
  rcases h.mem with ⟨_, h2, h3⟩ | ⟨vs, ty, cap, _, _, _, _, h5⟩
  · left
    refine ⟨h2, ?_⟩
    have := flat_length e l
    simp only [O.cells] at h3
    rw [h3] at this
    have hp := size_pos e
    cases l with
    | nil => rfl
    | cons x l => simp [Nat.add_mul] at this; omega
  · exact .inr ⟨cap, (h5 rfl).2.1, (h5 rfl).2.2.1, (h5 rfl).2.2.2.1⟩

theorem run_indexAt_slice {t et : TypeId} {ei : TI} {P : Program} (hu : P.underlying t = some (.slice et)) (hei : TIok P et ei) (b off len cap : Nat) (j : IntKind) (k : Nat) (hk : k < len) (w : World) :
    (Instr.indexAt t (.slice (some ⟨b, off, none⟩) len cap) (.int j k)).run P w = .ok (.pointer (some ⟨b, off + k * ei.size, none⟩)) w := by
  have h1 : (0 : Int) ≤ (k : Int) ∧ (k : Int) < (len : Int) := by omega
  simp [Instr.indexAt, asIntOf, run_underlying hu, h1, TI.size_run hei, addr_add]
  intro h; omega

theorem run_indexAt_arr {t et : TypeId} {m : Nat} {ei : TI} {P : Program} (hu : P.underlying t = some (.array m et)) (hei : TIok P et ei) (b off : Nat) (j : IntKind) (k : Nat) (hk : k < m) (w : World) :
    (Instr.indexAt t (.pointer (some ⟨b, off, none⟩)) (.int j k)).run P w = .ok (.pointer (some ⟨b, off + k * ei.size, none⟩)) w := by
  have h1 : (0 : Int) ≤ (k : Int) ∧ (k : Int) < (m : Int) := by omega
  simp [Instr.indexAt, Instr.sureAddr, asIntOf, run_underlying hu, h1, TI.size_run hei, addr_add]
  intro h; omega

theorem does_idx {o : Oper} (hp : PDok X.P X.pd) (t : TypeId) (x y : Operand) (ho : o.op = .indexAddr t x y) {c d : C} {n : Int} {rd : List Nat}
    (hx : (X.pd.ev t s x).c? = some c) (hy : (X.pd.ev 3 s y).int? = some n) (hi : X.pd.idx t s c n = some (true, d)) : Does X o s ⟨o.dst, .u (.c d), [], [], [], rd⟩ := by
  intro ρ a w Q h _
  have hv := ev_c h hx
  obtain ⟨j, hn⟩ := ev_int h hy
  have key : ∀ {b off : Nat}, RC X ρ d (.pointer (some ⟨b, off, none⟩)) → (Instr.indexAt t (a.eval x) (a.eval y)).run X.P w = .ok (.pointer (some ⟨b, off, none⟩)) w →
      o.wp X.P a w (fun a' w' => ∃ ρ', Sim X ρ' ((⟨o.dst, .u (.c d), [], [], [], rd⟩ : Eff).app s) a' w') Q := fun hrc hrun => by
    refine wp_val h ?_ (show RV X ρ (.u (.c d)) _ from hrc)
    simp [execOp, ho, hrun]
  rw [hn] at key
  unfold PD.idx at hi
  split at hi
  · rename_i id i sub
    obtain ⟨hi1, hi2, hv⟩ := hv
    rw [hv] at key
    split at hi
    · rename_i m e sz by' z y' ht hg
      split at hi
      · rename_i ei hei
        have hro := h.ob _ _ hg
        have hu := (hp.ti _ _ ht).kind.1
        have hTI := hp.ti _ _ hei
        cases hb : (y'.o.isVec X.pd e && (Nat.beq sub 0 && (Nat.beq i 0 && (Nat.ble m y'.n && !y'.row)))) with
        | true =>
          rw [hb] at hi
          simp only [cond_true, Option.some.injEq, Prod.mk.injEq] at hi
          obtain ⟨hg2, rfl⟩ := hi
          obtain ⟨k, rfl, hk⟩ := in_spec hg2
          simp only [Bool.and_eq_true, Bool.not_eq_true'] at hb
          obtain ⟨hb1, hb2, hb3, hb4, hb5⟩ := hb
          have e1 := Nat.beq_true hb2
          have e2 := Nat.beq_true hb3
          subst e1; subst e2
          have e3 : m ≤ y'.n := by simpa [Nat.ble_eq] using hb4
          unfold O.isVec at hb1
          split at hb1
          · rename_i f l hf
            obtain ⟨ti2, h1, h2, h3⟩ := elIs_spec hp hb1
            rw [hei] at h1; cases h1
            have hsz := hro.sz
            have hlen := hro.len
            rw [hf] at hsz hlen
            simp only [O.sz, O.len] at hsz hlen
            have hl := hro.n hb5 (by omega) f l hf
            have hrun := run_indexAt_arr hu hTI (ρ id).blk (0 * (ρ id).sz + 0) j k hk w
            refine key ?_ hrun
            simp only [RC, Int.toNat_natCast]
            refine ⟨by omega, by rw [hsz]; exact size_pos f, ?_⟩
            rw [hsz, h2]; simp
          · cases hb1
        | false =>
          rw [hb] at hi
          obtain ⟨hc1, hc2⟩ := cond_some hi
          simp only [Option.some.injEq, Prod.mk.injEq] at hc2
          obtain ⟨hg2, rfl⟩ := hc2
          obtain ⟨k, rfl, hk⟩ := in_spec hg2
          simp only [Bool.and_eq_true] at hc1
          have e1 : sub + m * ei.size ≤ y'.o.sz := by simpa [Nat.ble_eq] using hc1.1
          have e2 : 0 < ei.size := by simpa [Nat.blt_eq] using hc1.2
          have hrun := run_indexAt_arr hu hTI (ρ id).blk (i * (ρ id).sz + sub) j k hk w
          refine key ?_ hrun
          simp only [RC, Int.toNat_natCast]
          have : (k + 1) * ei.size ≤ m * ei.size := Nat.mul_le_mul_right _ hk
          rw [Nat.add_mul, Nat.one_mul] at this
          refine ⟨hi1, by rw [hro.sz]; omega, by rw [Nat.add_assoc]⟩
      · cases hi
    · cases hi
  · rename_i f l i sub
    obtain ⟨hi1, hi2, b, off, hv, hok, g, hg1, hg2⟩ := hv
    rw [hv] at key
    split at hi
    · rename_i m e sz by' z ht
      split at hi
      · rename_i ei hei
        have hu := (hp.ti _ _ ht).kind.1
        have hTI := hp.ti _ _ hei
        obtain ⟨hc1, hc2⟩ := cond_some hi
        simp only [Option.some.injEq, Prod.mk.injEq] at hc2
        obtain ⟨hgd, rfl⟩ := hc2
        obtain ⟨k, rfl, hk⟩ := in_spec hgd
        simp only [Bool.and_eq_true] at hc1
        have e1 : sub + m * ei.size ≤ f.size := by simpa [Nat.ble_eq] using hc1.1
        have e2 : 0 < ei.size := by simpa [Nat.blt_eq] using hc1.2
        have hrun := run_indexAt_arr hu hTI b (off + (i * f.size + sub)) j k hk w
        refine key ?_ hrun
        simp only [RC, Int.toNat_natCast]
        have : (k + 1) * ei.size ≤ m * ei.size := Nat.mul_le_mul_right _ hk
        rw [Nat.add_mul, Nat.one_mul] at this
        exact ⟨hi1, by omega, b, off, by congr 3; omega, hok, g, hg1, hg2⟩
      · cases hi
    · cases hi
  · rename_i id
    obtain ⟨hv, _⟩ := hv
    split at hi
    · rename_i n' ty e l hg
      obtain ⟨hc1, hc2⟩ := cond_some hi
      obtain ⟨et, ei, hu, hei, hsz, _⟩ := slIs_spec hp hc1
      simp only [Option.some.injEq, Prod.mk.injEq] at hc2
      obtain ⟨hgd, rfl⟩ := hc2
      obtain ⟨k, rfl, hk⟩ := in_spec hgd
      have hro := h.ob _ _ hg
      rcases row_val hro with ⟨_, rfl⟩ | ⟨cap, h1, _⟩
      · simp at hk
      · rw [hv, h1] at key
        have hrun := run_indexAt_slice hu (hp.ti _ _ hei) (ρ id).blk 0 l.length cap j k hk w
        refine key ?_ hrun
        simp only [RC, Int.toNat_natCast]
        have e1 := hro.sz
        have e2 := hro.len
        simp only [O.sz, O.len] at e1 e2
        exact ⟨by omega, by rw [e1]; exact size_pos e, by rw [e1, hsz]; simp⟩
    · cases hi
  · rename_i id i m
    obtain ⟨hlen, cap, hcap, hmax, hv⟩ := hv
    split at hi
    · rename_i rw' n' ty e l hg
      obtain ⟨hc1, hc2⟩ := cond_some hi
      obtain ⟨et, ei, hu, hei, hsz, _⟩ := slIs_spec hp hc1
      simp only [Option.some.injEq, Prod.mk.injEq] at hc2
      obtain ⟨hgd, rfl⟩ := hc2
      obtain ⟨k, rfl, hk⟩ := in_spec hgd
      rcases hv with hv | ⟨hm0, _⟩
      · rw [hv] at key
        have hro := h.ob _ _ hg
        have hrun := run_indexAt_slice hu (hp.ti _ _ hei) (ρ id).blk (i * (ρ id).sz) m cap j k hk w
        refine key ?_ hrun
        simp only [RC, Int.toNat_natCast]
        have e1 := hro.sz
        simp only [O.sz] at e1
        exact ⟨by omega, by rw [e1]; exact size_pos e, by rw [e1, hsz, Nat.add_mul]; simp⟩
      · omega
    · cases hi
  · rename_i e l
    obtain ⟨hc1, hc2⟩ := cond_some hi
    obtain ⟨et, ei, hu, hei, hsz, _⟩ := slIs_spec hp hc1
    simp only [Option.some.injEq, Prod.mk.injEq] at hc2
    obtain ⟨hgd, rfl⟩ := hc2
    obtain ⟨k, rfl, hk⟩ := in_spec hgd
    have hv : Holds X.w0 X.ok (.ro e l) (a.eval x) := hv
    generalize a.eval x = vx at hv key
    cases hv with
    | sc h => cases h
    | ro f h1 h2 h3 h4 h5 =>
      rename_i b off cap
      have hrun := run_indexAt_slice hu (hp.ti _ _ hei) b off l.length cap j k hk w
      refine key ?_ hrun
      simp only [RC, Int.toNat_natCast]
      exact ⟨hk, size_pos e, b, off, by rw [hsz]; simp, h3, f, h4, h5⟩
    | emp => simp at hk
  · cases hi

theorem does_field {o : Oper} (hp : PDok X.P X.pd) (t : TypeId) (x : Operand) (f : Nat) (ho : o.op = .fieldAddr t x f) {fs : List (Nat × TypeId)} {sz by' : Nat} {z : List C} {off : Nat} {ft : TypeId} {rd : List Nat}
    (ht : X.pd.ti t = some ⟨.struct fs, sz, by', z⟩) (hf : fs[f]? = some (off, ft)) {fi : TI} (hfi : X.pd.ti ft = some fi) (hpos : 0 < fi.size) {c d : C} (hx : (X.pd.ev 0 s x).c? = some c)
    (hd : (∃ id i sub y, c = .ptr id i sub ∧ d = .ptr id i (sub + off) ∧ s.get id = some y ∧ sub + off < y.o.sz) ∨ ∃ e l i sub, c = .rop e l i sub ∧ d = .rop e l i (sub + off) ∧ sub + off < e.size) :
    Does X o s ⟨o.dst, .u (.c d), [], [], [], rd⟩ := by
  intro ρ a w Q h _
  have hv := ev_c h hx
  obtain ⟨⟨fields, hu, hfs, _⟩, _⟩ := (hp.ti _ _ ht).kind
  have hfield : ∃ fd : Field, fields[f]? = some fd ∧ fd.offset = off ∧ fd.type = ft := by
    rw [← hfs] at hf
    simp only [List.getElem?_map, Array.getElem?_toList] at hf
    cases hq : fields[f]? with
    | none => rw [hq] at hf; cases hf
    | some fd => rw [hq] at hf; simp at hf; exact ⟨fd, rfl, hf.1, hf.2⟩
  obtain ⟨fd, hfd, hoff, hty⟩ := hfield
  have run : ∀ b o', (Instr.fieldAt t (.pointer (some ⟨b, o', none⟩)) f).run X.P w = .ok (.pointer (some ⟨b, o' + off, none⟩)) w := fun b o' => by
    have h0 : fi.size ≠ 0 := by omega
    simp [Instr.fieldAt, Instr.sureAddr, run_underlying hu, hfd, fieldPlace, hty, TI.size_run (hp.ti _ _ hfi), h0, hoff, addr_add]
  rcases hd with ⟨id, i, sub, y, rfl, rfl, hg, hlt⟩ | ⟨e, l, i, sub, rfl, rfl, hlt⟩
  · obtain ⟨h1, h2, h3⟩ := hv
    refine wp_val h (x := .pointer (some ⟨(ρ id).blk, i * (ρ id).sz + sub + off, none⟩)) ?_ (show RC X ρ (.ptr id i (sub + off)) _ from ⟨h1, by rw [(h.ob _ _ hg).sz]; exact hlt, by rw [Nat.add_assoc]⟩)
    simp [execOp, ho, h3, run]
  · obtain ⟨h1, h2, b, off', h3, h4, g, h5, h6⟩ := hv
    refine wp_val h (x := .pointer (some ⟨b, off' + (i * e.size + sub) + off, none⟩)) ?_ (show RC X ρ (.rop e l i (sub + off)) _ from ⟨h1, hlt, b, off', by congr 3; omega, h4, g, h5, h6⟩)
    simp [execOp, ho, h3, run]

end Go.Proofs.Ytgimohchocjgcaa.V
