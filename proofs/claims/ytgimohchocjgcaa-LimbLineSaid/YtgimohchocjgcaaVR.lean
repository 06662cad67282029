/- Appending to a list of one's own. -/
import Derived.Test.YtgimohchocjgcaaVQ
set_option linter.unusedVariables false
set_option linter.unusedSimpArgs false
namespace Go.Proofs.Ytgimohchocjgcaa.V

variable {X : Ctx} {ρ : Nat → RI} {s : St} {a : Act} {w : World}

set_option maxHeartbeats 1000000 in
/-- What an append does to a list, with room or without. -/
theorem run_append_any {P : Program} {w : World} {t u ty e : TypeId} {i : TypeInfo} {z : Value} {x : Value} {m : Nat} {news : List Value} {val : Value} {n : Nat} {xs : List Value}
    (ht : P.underlying t = some (.slice e)) (hu : P.underlying u = some (.slice e) ∨ P.underlying u = some .string) (hi : P.info? e = some i) (hz : i.zero = some z) (hzs : z.cells.size = i.size)
    (hm : ∀ w, (Builtin.lenOf x).run P w = .ok m w) (hf : ∀ w', (∀ a, w'.cell? a = w.cell? a) → (Builtin.firstCells i.size m x).run P w' = .ok news.toArray w') (hl : news.length = m * i.size) (h1 : ∀ u ∈ news, u.oneCell' = true)
    (hb : (n + m) * i.bytes ≤ 140737488355328) (hb0 : 0 < i.bytes)
    (hval : (val = .slice none 0 0 ∧ n = 0 ∧ xs = []) ∨ ∃ g cap cur, val = .slice (some ⟨g, 0, none⟩) n cap ∧ w.heap[g]? = some (.cells cur e (0, 0)) ∧ n ≤ cap ∧ cap ≤ maxLen ∧ cur.size = cap * i.size ∧ cur.toList.take (n * i.size) = xs) :
    ∃ val' w', (Builtin.append_ #[t, u] ty #[val, x]).run P w = .ok val' w' ∧
      ((val' = .slice none 0 0 ∧ n + m = 0 ∧ w' = w) ∨
       ∃ g cap cur, val' = .slice (some ⟨g, 0, none⟩) (n + m) cap ∧ w'.heap[g]? = some (.cells cur e (0, 0)) ∧ n + m ≤ cap ∧ cap ≤ maxLen ∧ cur.size = cap * i.size ∧ cur.toList.take ((n + m) * i.size) = xs ++ news ∧
         w'.os = w.os ∧ w'.tape = w.tape ∧ w'.output = w.output ∧ w.heap.size ≤ w'.heap.size ∧
         ((val.ownBlock = some g ∧ ∀ k, k ≠ g → w'.heap[k]? = w.heap[k]?) ∨ (g = w.heap.size ∧ ∀ k, k < w.heap.size → w'.heap[k]? = w.heap[k]?))) := by
  have hzr : ∀ w, (do pure ((← underlying u) matches .int _) : Sem Bool).run P w = .ok false w := fun w => by
    rcases hu with hu | hu <;> simp [run_underlying hu]
  have hnm : n + m ≤ 140737488355328 := Nat.le_trans (Nat.le_mul_of_pos_right _ hb0) hb
  have grown : ∀ (old : Nat), ∃ cap cur, grownCap w (n + m) old e = cap ∧ n + m ≤ cap ∧ cap ≤ maxLen ∧ cur = xs.toArray ++ news.toArray ++ Builtin.zeroCells z.cells (cap - (n + m)) := fun old =>
    ⟨_, _, rfl, grownCap_ge _ _ _ _, grownCap_le_maxLen _ _ _ _ (by simp only [maxLen]; omega), rfl⟩
  have grow : ∀ (base : Option Addr) (cap0 : Nat), val = .slice base n cap0 → ¬ (n + m ≤ cap0) → xs.length = n * i.size → (∀ w', (∀ a, w'.cell? a = w.cell? a) → (Builtin.firstCells i.size n val).run P w' = .ok xs.toArray w') →
      ∃ cap cur, (Builtin.append_ #[t, u] ty #[val, x]).run P w = .ok (.slice (some ⟨w.heap.size, 0, none⟩) (n + m) cap) (w.drew.alloc (.cells cur e)) ∧ n + m ≤ cap ∧ cap ≤ maxLen ∧ cur.size = cap * i.size ∧ cur.toList.take ((n + m) * i.size) = xs ++ news := fun base cap0 hv hno hxl hold => by
    obtain ⟨cap, cur, hc1, hc2, hc3, hc4⟩ := grown cap0
    have hfit : ¬ (Builtin.nextslicecap (n + m) cap0 * i.bytes > 2 ^ 48) := by
      have := growslice_fits (need := n + m) (old := cap0) (bytes := i.bytes) (by omega) hb
      omega
    have h63 : ¬ (IntKind.i64.max < (n : Int) + (m : Int)) := by
      simp only [show IntKind.i64.max = 9223372036854775807 from rfl]; omega
    refine ⟨cap, cur, ?_, hc2, hc3, ?_, ?_⟩
    · subst hc4
      have hm' := hm w
      have hf' := hf w.drew (fun _ => rfl)
      have hold' := hold w.drew (fun _ => rfl)
      rw [hv] at hold'
      have hfit' : ¬ (281474976710656 < Builtin.nextslicecap (n + m) cap0 * i.bytes) := by omega
      have hb1 : i.bytes ≠ 0 := by omega
      rw [hv]
      have hc1' : (Question.appendCap (n + m) cap0 e).cut (w.tape w.drawn (Question.appendCap (n + m) cap0 e)) = cap := hc1
      rcases hu with hu | hu <;>
        simp [Builtin.append_, run_underlying ht, run_underlying hu, sizeOf, typeInfo, zeroValue, hi, hz, hm', hno, h63, hfit', hb1, Question.forced, newRow, hold', hf', hc1'] <;>
        (congr 2; apply Array.ext'; simp)
    · rw [hc4]
      simp only [Array.size_append, List.size_toArray, size_zeroCells, hzs, hxl, hl, ← Nat.add_mul]
      congr 1; omega
    · rw [hc4]
      simp only [Array.toList_append, List.append_assoc]
      rw [← List.append_assoc, show (n + m) * i.size = (xs ++ news).length from by rw [List.length_append, hxl, hl, Nat.add_mul]]
      exact List.take_left
  rcases hval with ⟨rfl, rfl, rfl⟩ | ⟨g, cap, cur, rfl, hg, hnc, hcm, hcs, htk⟩
  · by_cases hm0 : m = 0
    · subst hm0
      have hn0 : news = [] := List.eq_nil_of_length_eq_zero (by simpa using hl)
      subst hn0
      refine ⟨.slice none 0 0, w, ?_, .inl ⟨rfl, rfl, rfl⟩⟩
      have hm' := hm w
      have hf' := hf w (fun _ => rfl)
      rcases hu with hu | hu <;>
        simp [Builtin.append_, run_underlying ht, run_underlying hu, sizeOf, typeInfo, zeroValue, hi, hz, hm', hf']
    · obtain ⟨cap, cur, h1, h2, h3, h4, h5⟩ := grow none 0 rfl (by omega) (by simp) (fun w' _ => by simp [Builtin.firstCells])
      refine ⟨_, _, h1, .inr ⟨w.heap.size, cap, cur, rfl, heap_alloc_new w.drew _, h2, h3, h4, h5, rfl, rfl, rfl, by simp, .inr ⟨rfl, fun k hk => heap_alloc_old w.drew _ k hk⟩⟩⟩
  · have hxl : xs.length = n * i.size := by rw [← htk]; simp; rw [hcs]; exact Nat.min_eq_left (Nat.mul_le_mul_right _ hnc)
    by_cases hroom : n + m ≤ cap
    · have hfit : n * i.size + news.length ≤ cur.size := by rw [hl, hcs, ← Nat.add_mul]; exact Nat.mul_le_mul_right _ hroom
      have hst := run_storeCells_at P g (n * i.size) e news 0 cur w hg (by simpa using hfit) h1
      simp only [Nat.add_zero] at hst
      have hm' := hm w
      have hf' := hf w (fun _ => rfl)
      refine ⟨.slice (some ⟨g, 0, none⟩) (n + m) cap, w.setRow g (cur.toList.take (n * i.size) ++ news ++ cur.toList.drop (n * i.size + news.length)).toArray, ?_, .inr ⟨g, cap, _, rfl, setRow_heap w g cur _ e _ hg, hroom, hcm, ?_, ?_, rfl, rfl, rfl, by simp, .inl ⟨rfl, fun k hk => setRow_other w g k _ hk⟩⟩⟩
      · rcases hu with hu | hu <;>
          simp [Builtin.append_, run_underlying ht, run_underlying hu, sizeOf, typeInfo, zeroValue, hi, hz, hm', hf', hroom, addr_add, hst]
      · simp only [List.size_toArray, List.length_append, List.length_take, List.length_drop, Array.length_toList]
        omega
      · rw [htk, show (n + m) * i.size = (xs ++ news).length from by rw [List.length_append, hxl, hl, Nat.add_mul]]
        exact List.take_left
    · have holds : ∀ j u, xs[j]? = some u → w.cell? ((⟨g, 0, none⟩ : Addr).add j) = some u := fun j u hu => by
        rw [addr_add, Nat.zero_add, cell_of_row w g j cur e (0, 0) hg]
        rw [← htk, List.getElem?_take] at hu
        split at hu
        · simpa using hu
        · cases hu
      obtain ⟨cap', cur', h1, h2, h3, h4, h5⟩ := grow (some ⟨g, 0, none⟩) cap rfl hroom hxl (fun w' hw' => by
        have := run_firstCells_some (P := P) w' i.size n ⟨g, 0, none⟩ n cap xs hxl (fun j u hu => by rw [hw']; exact holds j u hu)
        exact this)
      exact ⟨_, _, h1, .inr ⟨w.heap.size, cap', cur', rfl, heap_alloc_new w.drew _, h2, h3, h4, h5, rfl, rfl, rfl, by simp, .inr ⟨rfl, fun k hk => heap_alloc_old w.drew _ k hk⟩⟩⟩

theorem men_del {id n : Nat} (hm : s.men n = false) : St.men ⟨s.tm, delOb id s.ob⟩ n = false := by
  have hdel : ∀ l : List (Nat × Ob), menObs n l = false → menObs n (delOb id l) = false := fun l => by
    induction l with
    | nil => intro h; exact h
    | cons p l ih =>
      obtain ⟨j, x⟩ := p
      intro hml
      simp only [menObs] at hml
      cases h1 : Nat.beq j n with
      | true => rw [h1] at hml; cases hml
      | false =>
        cases h2 : x.o.men n with
        | true => rw [h1, h2] at hml; cases hml
        | false =>
          rw [h1, h2] at hml
          simp only [delOb]
          cases h3 : Nat.beq j id with
          | true => exact ih hml
          | false => simp only [cond_false, menObs, h1, h2]; exact ih hml
  unfold St.men at *
  cases h1 : menVs n s.tm with
  | true => rw [h1] at hm; cases hm
  | false => rw [h1] at hm; simp only [cond_false] at hm ⊢; exact hdel _ hm

theorem strCells_ok (l : List UInt8) : RCs X ρ (flat .u8 l) (l.map fun b => Value.int .u8 b.toNat) := by
  induction l with
  | nil => trivial
  | cons x l ih => exact ⟨RC_val rfl, ih⟩

/-- The source of an append or a copy: its length, its cells. -/
theorem src_ok {P : Program} (h : Sim X ρ s a w) {c : C} {e : El} {l : List e.T} {v : Value} (hl : s.list c = some ⟨e, l⟩) (hv : RC X ρ c v) :
    ∃ vs, RCs X ρ (flat e l) vs ∧ (∀ w, (Builtin.lenOf v).run P w = .ok l.length w) ∧ ∀ w', (∀ a, w'.cell? a = w.cell? a) → ∀ sz, sz = e.size → (Builtin.firstCells sz l.length v).run P w' = .ok vs.toArray w' := by
  rcases list_ok h hl hv with ⟨r, rfl⟩ | ⟨rfl, ad, cap, rfl⟩ | ⟨b, off, cap, vs, rfl, h2, h3⟩
  · have hv2 := val_of_RC (X := X) (ρ := ρ) (c := .str r) rfl hv
    simp only [St.list, Option.some.injEq] at hl
    cases hl
    subst hv2
    refine ⟨_, strCells_ok r, fun w => ?_, fun w' _ sz hsz => ?_⟩
    · simp [Builtin.lenOf, ByteArray.size]; rfl
    · have he : (⟨r.toArray⟩ : ByteArray).extract 0 r.length = ⟨r.toArray⟩ := by
        have : r.length = (⟨r.toArray⟩ : ByteArray).size := by simp [ByteArray.size]
        rw [this, ByteArray.extract_zero_size]
      show (Builtin.firstCells sz r.length _).run P w' = _
      simp only [Builtin.firstCells, he]
      simp
  · refine ⟨[], trivial, fun w => by simp [Builtin.lenOf], fun w' _ sz _ => ?_⟩
    cases ad <;> simp [Builtin.firstCells, loadCells, loadCellsFrom]
  · refine ⟨vs, h2, fun w => by simp [Builtin.lenOf], fun w' hw' sz hsz => ?_⟩
    have hlen := RCs_length h2
    rw [flat_length] at hlen
    subst hsz
    exact run_firstCells_some (P := P) w' e.size l.length _ l.length cap vs hlen.symm (fun j u hu => by rw [addr_add, hw']; exact h3 j u hu)

theorem kind_slice {P : Program} {pd : PD} (hp : PDok P pd) {t e : TypeId} {sz by' : Nat} {z : List C} (h : pd.ti t = some ⟨.slice e, sz, by', z⟩) : P.underlying t = some (.slice e) := (hp.ti _ _ h).kind
theorem kind_str {P : Program} {pd : PD} (hp : PDok P pd) {t : TypeId} {sz by' : Nat} {z : List C} (h : pd.ti t = some ⟨.str, sz, by', z⟩) : P.underlying t = some .string := (hp.ti _ _ h).kind

theorem does_append {o : Oper} (hp : PDok X.P X.pd) (x y : Operand) (t u : TypeId) (ho : o.op = .call ⟨.builtin .append, #[x, y], #[t, u]⟩) {et : TypeId} {ei : TI} {e : El} {l l2 : List e.T} {id nid m : Nat} {c : C} {f : El} {l2' : List f.T} {rd : List Nat}
    (ht : X.P.underlying t = some (.slice et)) (hu : X.P.underlying u = some (.slice et) ∨ X.P.underlying u = some .string) (hei : X.pd.ti et = some ei) (hel : X.pd.el et = some e)
    (hx : (X.pd.ev t s x).c? = some (.row id)) (hy : (X.pd.ev u s y).c? = some c) (hg : s.get id = some ⟨true, m, et, .vec e l⟩) (hc : s.list c = some ⟨f, l2'⟩) (hcast : castL f e l2' = some l2)
    (hb0 : 0 < ei.bytes) (hb : (l.length + l2.length) * ei.bytes ≤ 140737488355328) :
    Does X o s ⟨o.dst, .u (.c (.row nid)), [(nid, ⟨true, m, et, .vec e (l ++ l2)⟩)], [id], [nid], rd⟩ := by
  intro ρ a w Q h hnew
  have hm := anyN_one hnew
  obtain ⟨hv, _⟩ := ev_c h hx
  have hvy := ev_c h hy
  obtain ⟨q, hq⟩ := castL_spec hcast
  subst q
  simp only at hq
  subst hq
  obtain ⟨i, z, hi1, hi2, hi3, hi4, hz, hzs⟩ := zeroCs_of hp hei hel
  obtain ⟨news, hn1, hn2, hn3⟩ := src_ok (P := X.P) h hc hvy
  have hnl := RCs_length hn1
  rw [flat_length] at hnl
  have hro := h.ob _ _ hg
  have e1 := hro.sz
  have e2 := hro.len
  simp only [O.sz, O.len] at e1 e2
  have hn0 := (hro.vec rfl).2
  simp only at hn0
  subst hn0
  have hcur : ∃ xs, RCs X ρ (flat f l) xs ∧ (((ρ id).val = .slice none 0 0 ∧ l.length = 0 ∧ xs = []) ∨ ∃ g cap cur, (ρ id).val = .slice (some ⟨g, 0, none⟩) l.length cap ∧ w.heap[g]? = some (.cells cur et (0, 0)) ∧ l.length ≤ cap ∧ cap ≤ maxLen ∧ cur.size = cap * i.size ∧ cur.toList.take (l.length * i.size) = xs) ∧
      (∀ g, (ρ id).val.ownBlock = some g → g = (ρ id).blk) := by
    rcases hro.mem with ⟨_, h2, h3⟩ | ⟨vs, ty, cap, h1, h2, h3, h4, h5⟩
    · rcases row_val hro with ⟨_, rfl⟩ | ⟨cap, h6, _⟩
      · exact ⟨[], trivial, .inl ⟨h2, rfl, rfl⟩, fun g hg => by rw [h2] at hg; cases hg⟩
      · rw [h2] at h6; cases h6
    · obtain ⟨h6, h7, h8, h9, h10⟩ := h5 rfl
      simp only at h6
      subst h6
      refine ⟨vs.toList.take (l.length * f.size), by simpa [O.cells, flat_length] using h2, .inr ⟨(ρ id).blk, cap, vs, h7, h1, h8, h9, by rw [hi2]; exact h10, by rw [hi2]⟩, fun g hg => ?_⟩
      rw [h7] at hg
      cases hg
      rfl
  obtain ⟨xs, hxs, hval, hown⟩ := hcur
  obtain ⟨val', w', hrun, hres⟩ := run_append_any (P := X.P) (w := w) (ty := o.type) (x := a.eval y) (val := (ρ id).val) ht hu hi1 hi4 (by rw [hzs, hi2]) (fun w => hn2 w) (fun w' hw' => hn3 w' hw' _ hi2) (by rw [hi2]; exact hnl.symm) (RCs_one hn1 (solid_flat _ _)) (by rw [hi3]; exact hb) (by rw [hi3]; exact hb0) hval
  have hexec : (execOp a.eval o).run X.P w = .ok (.value val') w' := by
    simp [execOp, ho, resolve, invoke, builtin, hv, hrun]
  have hmd : St.men ⟨s.tm, delOb id s.ob⟩ nid = false := men_del hm
  have hcells : RCs X (upd ρ nid ⟨0, val', f.size, (l ++ l2').length⟩) (flat f (l ++ l2')) (xs ++ news) := by
    rw [flat_append]
    exact RCs_append (upd_RCs (fun j hj => by rw [men_flat] at hj; cases hj) hxs) (upd_RCs (fun j hj => by rw [men_flat] at hj; cases hj) hn1)
  have hgd : ∀ j z, St.get ⟨s.tm, delOb id s.ob⟩ j = some z → s.get j = some z ∧ j ≠ id := fun j z hz => by
    unfold St.get at *
    by_cases e : j = id
    · subst e; rw [look_del_same] at hz; cases hz
    · rw [look_del_ne _ e] at hz; exact ⟨hz, e⟩
  have fin : ∀ r : RI, r.val = val' → (∃ a n c, val' = .slice a n c) → Sim X (upd ρ nid r) ⟨s.tm, putOb nid ⟨true, 0, et, .vec f (l ++ l2')⟩ (delOb id s.ob)⟩ a w' →
      o.wp X.P a w (fun a' w' => ∃ ρ', Sim X ρ' ((⟨o.dst, .u (.c (.row nid)), [(nid, ⟨true, 0, et, .vec f (l ++ l2')⟩)], [id], [nid], rd⟩ : Eff).app s) a' w') Q := fun r hr hsl hs => by
    unfold Oper.wp
    rw [hexec]
    refine ⟨upd ρ nid r, ?_⟩
    cases hd : o.dst with
    | none => simpa [Eff.app, St.dels, St.puts, Act.put] using hs
    | some d =>
      have := hs.set d (v := .u (.c (.row nid))) (x := val') (show RC X _ (.row nid) _ from ⟨by rw [upd_same, hr], hsl⟩)
      simpa [Eff.app, St.dels, St.puts] using this
  rcases hres with ⟨rfl, hz0, rfl⟩ | ⟨g, cap, cur, rfl, hh1, hh2, hh3, hh4, hh5, hos, htape, hout, hsize, hblk⟩
  · have hll : l ++ l2' = [] := List.eq_nil_of_length_eq_zero (by rw [List.length_append]; exact hz0)
    rw [hll] at fin ⊢
    refine fin ⟨0, .slice none 0 0, f.size, 0⟩ rfl ⟨_, _, _, rfl⟩ ?_
    refine (h.del id).add nid ⟨true, 0, et, .vec f []⟩ ⟨0, .slice none 0 0, f.size, 0⟩ hmd (RO_nil rfl rfl rfl) (fun hb => ?_)
    rcases hb with hb | hb
    · cases hb
    · rw [upd_same] at hb; exact absurd rfl hb
  · have hB : (ρ id).val.ownBlock = some g → hasB ρ id ⟨true, 0, et, .vec f l⟩ := fun hg2 => .inr (by intro hn; rw [hn] at hg2; cases hg2)
    have hownB : X.w0.heap.size ≤ g ∨ X.may g := by
      rcases hblk with ⟨hb1, _⟩ | ⟨rfl, _⟩
      · rw [hown g hb1]; exact h.own _ _ hg (hB hb1)
      · exact .inl h.fr.size
    have hdis : ∀ j z, St.get ⟨s.tm, delOb id s.ob⟩ j = some z → hasB ρ j z → (ρ j).blk ≠ g := fun j z hz hbz => by
      obtain ⟨hz1, hz2⟩ := hgd j z hz
      rcases hblk with ⟨hb1, _⟩ | ⟨rfl, _⟩
      · rw [hown g hb1]; exact h.inj j id z _ hz1 hg hz2 hbz (hB hb1)
      · have := h.lt hz1 hbz; omega
    have hsame : ∀ k, k < w.heap.size → k ≠ g → w'.heap[k]? = w.heap[k]? := fun k hk hkg => by
      rcases hblk with ⟨_, hb2⟩ | ⟨_, hb2⟩
      · exact hb2 k hkg
      · exact hb2 k hk
    have hs2 : Sim X ρ ⟨s.tm, delOb id s.ob⟩ a w' := (h.del id).world (fun j z hz hbz => hsame _ (h.lt (hgd j z hz).1 hbz) (hdis j z hz hbz))
      ⟨hos.trans h.fr.os, htape.trans h.fr.tape, hout.trans h.fr.output, Nat.le_trans h.fr.size hsize, fun k hk hmk => by
        rw [hsame k (Nat.lt_of_lt_of_le hk h.fr.size) (fun e => by subst e; rcases hownB with h1 | h1; omega; exact hmk h1)]
        exact h.fr.block k hk hmk⟩
    refine fin ⟨g, .slice (some ⟨g, 0, none⟩) (l.length + l2'.length) cap, f.size, (l ++ l2').length⟩ rfl ⟨_, _, _, rfl⟩ ?_
    refine hs2.add nid _ _ hmd ⟨by rw [upd_same]; rfl, by rw [upd_same]; rfl, (fun h => by cases h), fun _ => ⟨⟨f, _, rfl⟩, rfl⟩, .inr ⟨cur, et, cap, ?_, ?_, ?_, (fun h => by cases h), fun _ => ⟨rfl, ?_, ?_, hh3, ?_⟩⟩⟩ (fun _ => ⟨hdis, hownB⟩)
    · rw [upd_same]; exact hh1
    · simp only [O.cells, flat_length, List.length_append]
      rw [← hi2, hh5]
      exact RCs_congr (fun j hj => by rw [men_flat] at hj; cases hj) hcells
    · simp only [O.cells, flat_length, List.length_append, hh4, hi2]; exact Nat.mul_le_mul_right _ hh2
    · rw [upd_same]; simp [O.len]
    · simpa [O.len] using hh2
    · simp only [O.sz, hh4, hi2]

end Go.Proofs.Ytgimohchocjgcaa.V
