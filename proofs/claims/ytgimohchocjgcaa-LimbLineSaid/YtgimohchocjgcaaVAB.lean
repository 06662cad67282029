/- Are values alike? -/
import Derived.Test.YtgimohchocjgcaaVAA
set_option linter.unusedVariables false
set_option linter.unusedSimpArgs false
namespace Go.Proofs.Ytgimohchocjgcaa.V

variable {X : Ctx} {ρ : Nat → RI} {s : St} {a : Act} {w : World}

theorem eqS_ok {t : TypeId} {k : TK} {x y : C} {r : Bool} (hk : kindOk X.P t k) (h : eqS k x y = some r) {v u : Value} (hv : RC X ρ x v) (hu : RC X ρ y u) (d : Nat) : (Op.equalIn (d + 1) t v u).run X.P w = .ok r w := by
  unfold eqS at h
  split at h
  all_goals first | (cases h; done) | skip
  all_goals
    simp only [Option.some.injEq] at h
    subst h
    rw [val_of_RC rfl hv, val_of_RC rfl hu]
  · rw [run_equalIn_int w d t _ _ _ _ hk, beq64]
  · rw [run_equalIn_int w d t _ _ _ _ hk, beq32]
  · rw [run_equalIn_int w d t _ _ _ _ hk, beq8]
  · rw [run_equalIn_int w d t _ _ _ _ hk, eqIb]
  · rw [run_equalIn_bool' w d t _ _ hk]
  · rw [run_equalIn_string w d t _ _ hk, beq_bytes]

theorem eqIs_len {f : List C → List C → Option Bool} {z n : Nat} : True := trivial

/-- Part of an aggregate. -/
theorem part_ok {t : TypeId} {ti : TI} (hTI : TIok X.P t ti) {xs : List C} {vs : List Value} (hx : RCs X ρ xs vs) (off : Nat) (hf : off + ti.size ≤ vs.length) (w : World) :
    (part t vs.toArray off).run X.P w = .ok (valOf ti.k.agg ((vs.drop off).take ti.size)) w := by
  have := run_part hTI w vs.toArray off (by simpa using hf)
  simpa using this

theorem eqT_ok (hp : PDok X.P X.pd) : ∀ (d D : Nat) (t : TypeId) (ti : TI) (xs ys : List C) (vs us : List Value) (r : Bool), d ≤ D → eqT X.pd d t xs ys = some r → X.pd.ti t = some ti → RCs X ρ xs vs → RCs X ρ ys us → vs.length = ti.size → us.length = ti.size →
    (Op.equalIn D t (valOf ti.k.agg vs) (valOf ti.k.agg us)).run X.P w = .ok r w
  | 0, _, _, _, _, _, _, _, _, _, h, _, _, _, _, _ => by simp [eqT] at h
  | d + 1, 0, _, _, _, _, _, _, _, hd, _, _, _, _, _, _ => by omega
  | d + 1, D + 1, t, ti, xs, ys, vs, us, r, hd, h, hti, hxs, hys, hvl, hul => by
    have ih := eqT_ok hp d
    have hTI := hp.ti _ _ hti
    obtain ⟨k, sz, by', z⟩ := ti
    have hwf := hp.wf _ _ hti
    simp only [eqT, hti] at h
    cases k with
    | struct fs =>
      obtain ⟨⟨fields, hun, hfs, hall⟩, _, hst⟩ := hTI.kind
      simp only at h hvl hul
      have hfo : X.P.fieldsOf t = fields := by simp [Program.fieldsOf, hun]
      show (Op.equalIn (D + 1) t (.agg vs.toArray) (.agg us.toArray)).run X.P w = _
      rw [run_equalIn_struct w D t _ _ (by rw [hfo]; exact hun) hst, hfo]
      simp only [wfTI, Bool.and_eq_true] at hwf
      replace hwf := hwf.1
      clear hun hfo hTI hst hti
      generalize fields.toList = fl at hfs hall
      subst hfs
      induction fl generalizing r with
      | nil => simp [eqFs] at h; subst h; simp [Op.eqFields]
      | cons f fl ihf =>
        simp only [List.map_cons, eqFs] at h
        simp only [List.all_cons, Bool.and_eq_true, List.map_cons] at hall hwf
        cases hft : X.pd.ti f.type with
        | none => simp [hft] at h
        | some fi =>
          simp only [hft] at h hwf
          cases hr : eqT X.pd d f.type ((xs.drop f.offset).take fi.size) ((ys.drop f.offset).take fi.size) with
          | none => simp [hr] at h
          | some r1 =>
            simp only [hr] at h
            cases hq : eqFs X.pd (eqT X.pd d) xs ys (fl.map fun f => (f.offset, f.type)) with
            | none => simp [hq] at h
            | some q =>
              simp only [hq, Option.some.injEq] at h
              subst h
              have hfit : f.offset + fi.size ≤ sz := by simpa [Nat.ble_eq] using hwf.1
              have hrec := ih D f.type fi _ _ _ _ r1 (by omega) hr hft (RCs_take (RCs_drop hxs f.offset) fi.size) (RCs_take (RCs_drop hys f.offset) fi.size) (by simp; omega) (by simp; omega)
              have hname : f.name ≠ "_" := by simpa using hall.1.1
              simp only [Op.eqFields, ne_eq, hname, not_false_eq_true, if_true, Sem.run_bind, part_ok (hp.ti _ _ hft) hxs f.offset (by omega) w, part_ok (hp.ti _ _ hft) hys f.offset (by omega) w, Result.andThen_ok, hrec]
              cases r1 with
              | false => simp
              | true => simpa using ihf q hall.2 hq hwf.2
    | arr n e =>
      obtain ⟨hun, _⟩ := hTI.kind
      simp only at h
      cases hei : X.pd.ti e with
      | none => simp [hei] at h
      | some ei =>
        simp only [hei] at h
        simp only [wfTI, hei] at hwf
        have hsz : sz = n * ei.size := Nat.beq_true hwf
        have hTe := hp.ti _ _ hei
        obtain ⟨i, _, hi, hisz, _⟩ := hTe.info
        show (Op.equalIn (D + 1) t (.agg vs.toArray) (.agg us.toArray)).run X.P w = _
        rw [run_equalIn_array w D _ _ hun hi]
        have hco : X.P.cellsOf e = ei.size := by simp [Program.cellsOf, hi, hisz]
        rw [hco, List.range_eq_range']
        simp only at hvl hul
        have key : ∀ (m j : Nat) (r : Bool), j + m = n → eqIs (eqT X.pd d e) ei.size m (xs.drop (j * ei.size)) (ys.drop (j * ei.size)) = some r →
            (Op.eqItems D e ei.size vs.toArray us.toArray (List.range' j m)).run X.P w = .ok r w := by
          intro m
          induction m with
          | zero => intro j r _ h; simp [eqIs] at h; subst h; simp [Op.eqItems]
          | succ m ihm =>
            intro j r hj h
            simp only [eqIs] at h
            cases hr : eqT X.pd d e ((xs.drop (j * ei.size)).take ei.size) ((ys.drop (j * ei.size)).take ei.size) with
            | none => simp [hr] at h
            | some r1 =>
              simp only [hr, List.drop_drop] at h
              rw [show j * ei.size + ei.size = (j + 1) * ei.size from by rw [Nat.add_mul, Nat.one_mul]] at h
              cases hq : eqIs (eqT X.pd d e) ei.size m (xs.drop ((j + 1) * ei.size)) (ys.drop ((j + 1) * ei.size)) with
              | none => simp [hq] at h
              | some q =>
                simp only [hq, Option.some.injEq] at h
                subst h
                have hfit : j * ei.size + ei.size ≤ sz := by
                  rw [hsz, show j * ei.size + ei.size = (j + 1) * ei.size from by rw [Nat.add_mul, Nat.one_mul]]
                  exact Nat.mul_le_mul_right _ (by omega)
                have hrec := ih D e ei _ _ _ _ r1 (by omega) hr hei (RCs_take (RCs_drop hxs (j * ei.size)) ei.size) (RCs_take (RCs_drop hys (j * ei.size)) ei.size) (by simp; omega) (by simp; omega)
                simp only [List.range'_succ, Op.eqItems, Sem.run_bind, part_ok hTe hxs (j * ei.size) (by omega) w, part_ok hTe hys (j * ei.size) (by omega) w, Result.andThen_ok, hrec]
                cases r1 with
                | false => simp
                | true => simpa using ihm (j + 1) q (by omega) hq
        exact key n 0 r (by omega) (by simpa using h)
    | int k | bool | str | slice e | ptr e =>
      simp only at h
      split at h
      · rename_i x y
        cases vs with
        | nil => exact hxs.elim
        | cons v vs => cases us with
          | nil => exact hys.elim
          | cons u us =>
            exact eqS_ok hTI.kind h hxs.1 hys.1 D
      · cases h

theorem eqE_ok {t : TypeId} {ti : TI} (hTI : TIok X.P t ti) {e : El} (hs : scalK e ti.k = true) {x y : e.T} {v u : Value} (hv : RCs X ρ (e.toC x) [v]) (hu : RCs X ρ (e.toC y) [u]) (d : Nat) :
    (Op.equalIn (d + 1) t v u).run X.P w = .ok (eqE e x y) w ∧ e.size = 1 ∧ ti.k.agg = false := by
  obtain ⟨k, sz, by', z⟩ := ti
  cases e <;> cases k <;> simp [scalK] at hs <;> refine ⟨?_, rfl, rfl⟩
  · exact eqS_ok (k := .int _) (x := .u64 x) (y := .u64 y) hTI.kind rfl hv.1 hu.1 d
  · exact eqS_ok (k := .int _) (x := .u32 x) (y := .u32 y) hTI.kind rfl hv.1 hu.1 d
  · exact eqS_ok (k := .int _) (x := .u8 x) (y := .u8 y) hTI.kind rfl hv.1 hu.1 d
  · exact eqS_ok (k := .int _) (x := .int x) (y := .int y) hTI.kind rfl hv.1 hu.1 d
  · exact eqS_ok (k := .bool) (x := .bool x) (y := .bool y) hTI.kind rfl hv.1 hu.1 d

theorem scal_size {e : El} {k : TK} (h : scalK e k = true) : e.size = 1 ∧ k.agg = false := by
  cases e <;> cases k <;> first | (simp [scalK] at h; done) | exact ⟨rfl, rfl⟩

theorem does_eqV {o : Oper} (hp : PDok X.P X.pd) (op : BinOp) (t t' : TypeId) (x y : Operand) (ho : o.op = .binOp op t x y t') {e f : El} {l m : List e.T} {m' : List f.T} {b r : Bool} (hx : X.pd.ev t s x = .u (.vec e l)) (hy : X.pd.ev t' s y = .u (.vec f m'))
    (hcast : castL f e m' = some m) (h : eqV X.pd t e l m = some (true, b)) (hop : (op = .eql ∧ r = b) ∨ (op = .neq ∧ r = !b)) {rd : List Nat} : Does X o s ⟨o.dst, .u (.c (.bool r)), [], [], [], rd⟩ := by
  intro ρ a w Q hs _
  obtain ⟨rfl, hm⟩ := castL_spec hcast
  change m' = m at hm
  subst hm
  unfold eqV at h
  split at h
  · rename_i n et sz by' z hti
    split at h
    · rename_i ei hei
      obtain ⟨h1, h2⟩ := cond_some h
      simp only [Option.some.injEq, Prod.mk.injEq, Bool.and_eq_true] at h2
      obtain ⟨⟨hl1, hl2⟩, rfl⟩ := h2
      obtain ⟨hz1, hag⟩ := scal_size h1
      have hv := ev_ok hs t x
      have hu := ev_ok hs t' y
      rw [hx] at hv
      rw [hy] at hu
      obtain ⟨vs, hv, hvc⟩ := hv
      obtain ⟨us, hu, huc⟩ := hu
      obtain ⟨hun, hgd⟩ := (hp.ti _ _ hti).kind
      have hTe := hp.ti _ _ hei
      have hez : ei.size = 1 := TI.one hTe hag
      obtain ⟨i, _, hi, hisz, _⟩ := hTe.info
      have hco : X.P.cellsOf et = 1 := by simp [Program.cellsOf, hi, hisz, hez]
      have hvl := RCs_length hvc
      have hul := RCs_length huc
      rw [flat_length, hz1, Nat.mul_one] at hvl hul
      have e1 := Nat.beq_true hl1
      have e2 := Nat.beq_true hl2
      have hrun : (Op.equalIn 10000 t (.agg vs) (.agg us)).run X.P w = .ok (eqL f l m') w := by
        rw [run_equalIn_array w 9999 _ _ hun hi, hco, List.range_eq_range']
        have key : ∀ (k j : Nat), j + k = n → (Op.eqItems 9999 et 1 vs us (List.range' j k)).run X.P w = .ok (eqL f (l.drop j) (m'.drop j)) w := by
          intro k
          induction k with
          | zero =>
            intro j hj
            rw [List.drop_of_length_le (by omega), List.drop_of_length_le (by omega)]
            simp [Op.eqItems, eqL]
          | succ k ih =>
            intro j hj
            have hj1 : j < l.length := by omega
            have hj2 : j < m'.length := by omega
            rw [List.drop_eq_getElem_cons hj1, List.drop_eq_getElem_cons hj2]
            have hpx := part_ok hTe hvc (j * 1) (by rw [hez, ← hvl]; omega) w
            have hpy := part_ok hTe huc (j * 1) (by rw [hez, ← hul]; omega) w
            rw [Array.toArray_toList, hez, Nat.mul_one, hag] at hpx hpy
            have hcx : RCs X ρ (f.toC l[j]) ((vs.toList.drop j).take 1) := by
              have := RCs_take (RCs_drop hvc (j * f.size)) f.size
              rw [flat_at f l j hj1] at this
              simpa [hz1, List.getD_eq_getElem?_getD, hj1] using this
            have hcy : RCs X ρ (f.toC m'[j]) ((us.toList.drop j).take 1) := by
              have := RCs_take (RCs_drop huc (j * f.size)) f.size
              rw [flat_at f m' j hj2] at this
              simpa [hz1, List.getD_eq_getElem?_getD, hj2] using this
            obtain ⟨v, hvv⟩ : ∃ v, (vs.toList.drop j).take 1 = [v] := ⟨vs.toList[j]'(by omega), by rw [List.drop_eq_getElem_cons (by omega)]; rfl⟩
            obtain ⟨u, huu⟩ : ∃ u, (us.toList.drop j).take 1 = [u] := ⟨us.toList[j]'(by omega), by rw [List.drop_eq_getElem_cons (by omega)]; rfl⟩
            rw [hvv] at hpx hcx
            rw [huu] at hpy hcy
            have hrec := (eqE_ok (w := w) hTe h1 hcx hcy 9998).1
            simp only [List.range'_succ, Op.eqItems, Sem.run_bind, Nat.mul_one, hpx, hpy, Result.andThen_ok]
            rw [show valOf false [v] = v from rfl, show valOf false [u] = u from rfl, hrec]
            simp only [eqL, Result.andThen_ok]
            cases eqE f l[j] m'[j] with
            | false => simp
            | true => simpa using ih (j + 1) (by omega)
        simpa using key n 0 (by omega)
      refine wp_val hs (x := .bool r) ?_ (show RC X ρ (.bool r) _ from RC_val rfl)
      rcases hop with ⟨rfl, rfl⟩ | ⟨rfl, rfl⟩
      · simp [execOp, ho, hv, hu, run_eqGuard_agg w _ _ _ _ _ _ hgd, run_eql_struct, hrun]
      · simp [execOp, ho, hv, hu, run_eqGuard_agg w _ _ _ _ _ _ hgd, run_neq_struct, hrun]
    · cases h
  · cases h

theorem does_eqA {o : Oper} (hp : PDok X.P X.pd) (op : BinOp) (t t' : TypeId) (x y : Operand) (ho : o.op = .binOp op t x y t') {l m : List C} {b r : Bool} (hx : X.pd.ev t s x = .u (.agg l)) (hy : X.pd.ev t' s y = .u (.agg m))
    (h : eqA X.pd t l m = some b) (hop : (op = .eql ∧ r = b) ∨ (op = .neq ∧ r = !b)) {rd : List Nat} : Does X o s ⟨o.dst, .u (.c (.bool r)), [], [], [], rd⟩ := by
  intro ρ a w Q hs _
  unfold eqA at h
  cases hti : X.pd.ti t with
  | none => simp [hti] at h
  | some ti =>
    simp only [hti] at h
    obtain ⟨h1, h2⟩ := cond_some h
    obtain ⟨hag, hl1, hl2⟩ := beq3 h1
    have hv := ev_ok hs t x
    have hu := ev_ok hs t' y
    rw [hx] at hv
    rw [hy] at hu
    obtain ⟨vs, hv, hvc⟩ := hv
    obtain ⟨us, hu, huc⟩ := hu
    have e1 := RCs_length hvc
    have e2 := RCs_length huc
    have e3 := Nat.beq_true hl1
    have e4 := Nat.beq_true hl2
    have hrun := eqT_ok (w := w) hp 9 10000 t ti l m vs.toList us.toList b (by omega) h2 hti hvc huc (by omega) (by omega)
    rw [hag, valOf_agg, valOf_agg, Array.toArray_toList, Array.toArray_toList] at hrun
    have hgd : X.P.eqGuardType X.P.depth t = false := by
      have hk := (hp.ti _ _ hti).kind
      obtain ⟨k, sz, by', z⟩ := ti
      cases k <;> simp [TK.agg] at hag
      · exact hk.2
      · exact hk.2.1
    refine wp_val hs (x := .bool r) ?_ (show RC X ρ (.bool r) _ from RC_val rfl)
    rcases hop with ⟨rfl, rfl⟩ | ⟨rfl, rfl⟩
    · simp [execOp, ho, hv, hu, run_eqGuard_agg w _ _ _ _ _ _ hgd, run_eql_struct, hrun]
    · simp [execOp, ho, hv, hu, run_eqGuard_agg w _ _ _ _ _ _ hgd, run_neq_struct, hrun]

end Go.Proofs.Ytgimohchocjgcaa.V
