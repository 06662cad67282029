/- Values put together and taken apart. -/
import Derived.Test.YtgimohchocjgcaaVR
import Derived.Laws.BytesString
set_option linter.unusedVariables false
set_option linter.unusedSimpArgs false
namespace Go.Proofs.Ytgimohchocjgcaa.V

variable {X : Ctx} {ρ : Nat → RI} {s : St} {a : Act} {w : World}

theorem does_conv {o : Oper} (hp : PDok X.P X.pd) (src dst : TypeId) (x : Operand) (ho : o.op = .convert src dst x) {k : IntKind} {c d : C} {ts : TI} {sz by' : Nat} {z : List C} {rd : List Nat}
    (hs : X.pd.ti src = some ts) (hd : X.pd.ti dst = some ⟨.int k, sz, by', z⟩) (hx : (X.pd.ev src s x).c? = some c) (hc : convC k c = some d) : Does X o s ⟨o.dst, .u (.c d), [], [], [], rd⟩ := by
  intro ρ a w Q h _
  obtain ⟨j, n, h1, h2⟩ := conv_ok hc
  have e1 := val_of_RC h1 (ev_c h hx)
  refine wp_val h ?_ (show RC X ρ d _ from RC_val h2)
  have hk := (hp.ti _ _ hd).kind
  have hu : ∃ d, X.P.underlying src = some d := by
    have := (hp.ti _ _ hs).kind
    cases hkk : ts.k <;> rw [hkk] at this <;> simp only [kindOk] at this
    case arr n e => exact ⟨_, this.1⟩
    case struct fs => obtain ⟨⟨f, h, _⟩, _⟩ := this; exact ⟨_, h⟩
    all_goals exact ⟨_, this⟩
  obtain ⟨d, hu⟩ := hu
  simp [execOp, ho, e1, convert, run_underlying hu, run_underlying hk, Conv.intToInt]

theorem u8_vals {l : List UInt8} {vs : List Value} (h : RCs X ρ (flat .u8 l) vs) : vs = l.map fun x => Value.int .u8 x.toNat := by
  induction l generalizing vs with
  | nil => cases vs with
    | nil => rfl
    | cons v vs => exact h.elim
  | cons x l ih => cases vs with
    | nil => exact h.elim
    | cons v vs =>
      have h1 := val_of_RC (X := X) (ρ := ρ) (c := .u8 x) rfl h.1
      have h2 := ih (vs := vs) h.2
      simp [h1, h2]

theorem does_toStr {o : Oper} (hp : PDok X.P X.pd) (src dst : TypeId) (x : Operand) (ho : o.op = .convert src dst x) {c : C} {et : TypeId} {l : List UInt8} {rd : List Nat}
    (hs : X.P.underlying src = some (.slice et)) (he : X.P.underlying et = some (.int .u8)) (hd : X.P.underlying dst = some .string) (hx : (X.pd.ev src s x).c? = some c) (hc : s.list c = some ⟨.u8, l⟩) (hns : ∀ r, c ≠ .str r) :
    Does X o s ⟨o.dst, .u (.c (.str l)), [], [], [], rd⟩ := by
  intro ρ a w Q h _
  have hv := ev_c h hx
  refine wp_val h (x := .string ⟨l.toArray⟩) ?_ (show RC X ρ (.str l) _ from RC_val rfl)
  have hfold : ∀ (l : List UInt8) (b : ByteArray), (l.map fun x => (x.toNat : Int)).foldl (fun r n => r.push (UInt8.ofNat n.toNat)) b = ⟨b.data ++ l.toArray⟩ := fun l => by
    induction l with
    | nil => intro b; simp
    | cons x l ih =>
      intro b
      simp only [List.map_cons, List.foldl_cons, ih]
      congr 1
      simp [ByteArray.push]
  rcases list_ok h hc hv with ⟨r, rfl⟩ | ⟨rfl, ad, cap, hv2⟩ | ⟨b, off, cap, vs, hv2, h2, h3⟩
  · exact absurd rfl (hns r)
  · cases ad with
    | none => simp [execOp, ho, hv2, convert, run_underlying hs, run_underlying hd, run_underlying he, Conv.bytesToString]; rfl
    | some ad =>
      have := run_bytesToString (P := X.P) w ad 0 cap [] (by simp [loadCells, loadCellsFrom])
      simp [execOp, ho, hv2, convert, run_underlying hs, run_underlying hd, run_underlying he, this]
      rfl
  · have hvs := u8_vals h2
    subst hvs
    have hv2 : a.eval x = .slice (some ⟨b, off, none⟩) (List.length (α := UInt8) l) cap := hv2
    have hl : (loadCells ⟨b, off, none⟩ l.length).run X.P w = .ok ((l.map fun x => (x.toNat : Int)).map (Value.int .u8)).toArray w := by
      have := run_loadCells_list (P := X.P) w ⟨b, off, none⟩ (l.map fun x => Value.int .u8 x.toNat) (fun j v hj => by rw [addr_add]; exact h3 j v hj)
      simpa [List.map_map, Function.comp_def] using this
    have := run_bytesToString (P := X.P) w ⟨b, off, none⟩ l.length cap _ hl
    rw [hfold] at this
    simp [execOp, ho, hv2, convert, run_underlying hs, run_underlying hd, run_underlying he, this]

theorem does_toArr {o : Oper} (t : TypeId) (x : Operand) (ho : o.op = .sliceToArrayPointer t x) {c d : C} {n : Nat} {et : TypeId} {rd : List Nat}
    (ht : X.P.underlying t = some (.array n et)) (hn : 0 < n) (hx : (X.pd.ev 0 s x).c? = some c)
    (hd : (∃ id m ty e l, c = .row id ∧ d = .ptr id 0 0 ∧ s.get id = some ⟨true, m, ty, .vec e l⟩ ∧ n ≤ l.length) ∨ (∃ id i m r n' ty e l, c = .sl id i m ∧ d = .ptr id i 0 ∧ s.get id = some ⟨r, n', ty, .vec e l⟩ ∧ n ≤ m) ∨ ∃ e l, c = .ro e l ∧ d = .rop e l 0 0 ∧ n ≤ l.length) :
    Does X o s ⟨o.dst, .u (.c d), [], [], [], rd⟩ := by
  intro ρ a w Q h _
  have hv := ev_c h hx
  have run : ∀ ad len cap, n ≤ len → (Instr.arrayAt t (.slice ad len cap)).run X.P w = .ok (.pointer ad) w := fun ad len cap hl => by
    have : ¬ len < n := by omega
    simp [Instr.arrayAt, run_underlying ht, this]
  rcases hd with ⟨id, m, ty, e, l, rfl, rfl, hg, hl⟩ | ⟨id, i, m, r, n', ty, e, l, rfl, rfl, hg, hl⟩ | ⟨e, l, rfl, rfl, hl⟩
  · obtain ⟨hv, _⟩ := hv
    have hro := h.ob _ _ hg
    have e1 := hro.sz
    have e2 := hro.len
    simp only [O.sz, O.len] at e1 e2
    rcases row_val hro with ⟨_, rfl⟩ | ⟨cap, h2, _⟩
    · simp at hl; omega
    · refine wp_val h (x := .pointer (some ⟨(ρ id).blk, 0, none⟩)) ?_ (show RC X ρ (.ptr id 0 0) _ from ⟨by omega, by rw [e1]; exact size_pos e, by simp⟩)
      simp [execOp, ho, hv, h2, run _ _ _ hl]
  · obtain ⟨hlen, cap, hcap, hmax, hv⟩ := hv
    have hro := h.ob _ _ hg
    have e1 := hro.sz
    simp only [O.sz] at e1
    rcases hv with hv | ⟨hm, ad, hv⟩
    · refine wp_val h (x := .pointer (some ⟨(ρ id).blk, i * (ρ id).sz, none⟩)) ?_ (show RC X ρ (.ptr id i 0) _ from ⟨by omega, by rw [e1]; exact size_pos e, by simp⟩)
      simp [execOp, ho, hv, run _ _ _ hl]
    · omega
  · have hv : Holds X.w0 X.ok (.ro e l) _ := hv
    generalize hq : a.eval x = vx at hv
    cases hv with
    | sc h => cases h
    | ro f g1 g2 g3 g4 g5 =>
      rename_i b off cap
      refine wp_val h (x := .pointer (some ⟨b, off, none⟩)) ?_ (show RC X ρ (.rop e l 0 0) _ from ⟨by omega, size_pos e, b, off, by simp, g3, f, g4, g5⟩)
      simp [execOp, ho, hq, run _ _ _ hl]
    | emp => simp at hl; omega

theorem valOf_agg {cs : List Value} : valOf true cs = .agg cs.toArray := rfl

theorem run_part {P : Program} {t : TypeId} {ti : TI} (h : TIok P t ti) (w : World) (cs : Array Value) (off : Nat) (hf : off + ti.size ≤ cs.size) :
    (part t cs off).run P w = .ok (valOf ti.k.agg ((cs.toList.drop off).take ti.size)) w := by
  unfold part
  rw [Sem.run_bind, TI.agg_run h w]
  cases ha : ti.k.agg with
  | true =>
    simp only [Result.andThen_ok, if_true, Sem.run_bind, TI.size_run h w, Sem.run_pure, valOf]
    congr 2
    apply Array.ext'
    simp [Array.toList_extract, List.extract, List.take_drop]
  | false =>
    have h1 := TI.one h ha
    have : off < cs.size := by omega
    have e1 : (cs.toList.drop off).take ti.size = [cs[off]] := by
      rw [h1, List.take_one]
      simp [List.head?_drop, this]
    simp [valOf, e1, this]

theorem does_fieldV {o : Oper} (hp : PDok X.P X.pd) (t : TypeId) (x : Operand) (f : Nat) (ho : o.op = .field t x f) {fs : List (Nat × TypeId)} {sz by' : Nat} {z : List C} {off : Nat} {ft : TypeId} {fi : TI} {l : List C} {u : U} {rd : List Nat}
    (ht : X.pd.ti t = some ⟨.struct fs, sz, by', z⟩) (hx : X.pd.ev t s x = .u (.agg l)) (hf : fs[f]? = some (off, ft)) (hfi : X.pd.ti ft = some fi) (hfit : off + fi.size ≤ l.length) (hu : X.pd.mkU ft ((l.drop off).take fi.size) = some u) :
    Does X o s ⟨o.dst, .u u, [], [], [], rd⟩ := by
  intro ρ a w Q h _
  have hv := ev_ok h t x
  rw [hx] at hv
  obtain ⟨vs, hv, hc⟩ := hv
  obtain ⟨⟨fields, hun, hfs, _⟩, _⟩ := (hp.ti _ _ ht).kind
  have hfield : ∃ fd : Field, fields[f]? = some fd ∧ fd.offset = off ∧ fd.type = ft := by
    rw [← hfs] at hf
    simp only [List.getElem?_map, Array.getElem?_toList] at hf
    cases hq : fields[f]? with
    | none => rw [hq] at hf; cases hf
    | some fd => rw [hq] at hf; simp at hf; exact ⟨fd, rfl, hf.1, hf.2⟩
  obtain ⟨fd, hfd, hoff, hty⟩ := hfield
  have hl := RCs_length hc
  have hr := run_part (hp.ti _ _ hfi) w vs off (by rw [hl] at hfit; simpa using hfit)
  refine wp_val h (x := valOf fi.k.agg ((vs.toList.drop off).take fi.size)) ?_ (show RU X ρ u _ from mkU_ok hu (RCs_take (RCs_drop hc off) fi.size) hfi)
  simp [execOp, ho, hv, Instr.field, run_underlying hun, hfd, asAgg, hty, hoff, hr]

theorem does_indexV {o : Oper} (hp : PDok X.P X.pd) (t : TypeId) (x i : Operand) (ho : o.op = .index t x i) {n : Nat} {et : TypeId} {sz by' : Nat} {z : List C} {ei : TI} {l : List C} {k : Nat} {j : Int} {u y : U} {rd : List Nat}
    (ht : X.pd.ti t = some ⟨.arr n et, sz, by', z⟩) (hx : X.pd.ev t s x = .u y) (hy : (∃ e l, y = .vec e l) ∨ ∃ l, y = .agg l) (hi : (X.pd.ev 3 s i).int? = some j) (hk : j = k) (hkn : k < n) (hei : X.pd.ti et = some ei)
    (hfit : k * ei.size + ei.size ≤ y.cells.length) (hu : X.pd.mkU et ((y.cells.drop (k * ei.size)).take ei.size) = some u) : Does X o s ⟨o.dst, .u u, [], [], [], rd⟩ := by
  intro ρ a w Q h _
  have hv := ev_ok h t x
  rw [hx] at hv
  have hvs : ∃ vs, a.eval x = .agg vs ∧ RCs X ρ y.cells vs.toList := by
    rcases hy with ⟨e, l, rfl⟩ | ⟨l, rfl⟩ <;> exact hv
  obtain ⟨vs, hv, hc⟩ := hvs
  obtain ⟨kk, hj⟩ := ev_int h hi
  have hun := (hp.ti _ _ ht).kind.1
  have hl := RCs_length hc
  have hr := run_part (hp.ti _ _ hei) w vs (k * ei.size) (by rw [hl] at hfit; simpa using hfit)
  refine wp_val h (x := valOf ei.k.agg ((vs.toList.drop (k * ei.size)).take ei.size)) ?_ (show RU X ρ u _ from mkU_ok hu (RCs_take (RCs_drop hc _) ei.size) hei)
  subst hk
  have h1 : (0 : Int) ≤ (k : Int) ∧ (k : Int) < (n : Int) := by omega
  simp [execOp, ho, hv, hj, Instr.index, asIntOf, run_underlying hun, TI.size_run (hp.ti _ _ hei), hr]
  intro hh; omega

/-! ### Values of parts -/

theorem setCells_list (vs : List Value) : ∀ (k : Nat) (cs : Array Value) (off : Nat), off + k + vs.length ≤ cs.size →
    ((vs.zipIdx k).foldl (fun cs (c, j) => cs.setIfInBounds (off + j) c) cs).toList = splice cs.toList (off + k) vs := by
  induction vs with
  | nil => intro k cs off h; simp [splice]
  | cons v vs ih =>
    intro k cs off h
    simp only [List.zipIdx_cons, List.foldl_cons]
    rw [ih (k + 1) _ off (by simp at h ⊢; omega)]
    simp only [Array.toList_setIfInBounds, splice, List.length_cons, Nat.add_assoc]
    simp at h
    apply List.ext_getElem?
    intro j
    simp only [List.getElem?_append, List.length_take, List.length_set, List.getElem?_take, List.getElem?_drop, List.getElem?_set, Array.length_toList, List.length_cons, List.getElem?_cons]
    grind

theorem setCells_splice (cs : Array Value) (off : Nat) (vs : Array Value) (h : off + vs.size ≤ cs.size) :
    (vs.zipIdx.foldl (fun cs (c, j) => cs.setIfInBounds (off + j) c) cs).toList = splice cs.toList off vs.toList := by
  rw [← Array.foldl_toList, Array.toList_zipIdx]
  exact setCells_list vs.toList 0 cs off (by simpa using h)

end Go.Proofs.Ytgimohchocjgcaa.V
