import Derived.Test.YtgimohchocjgcaaVRW
import Derived.Test.YtgimohchocjgcaaVPA8
import Derived.Test.YtgimohchocjgcaaVOS
set_option linter.unusedVariables false
set_option linter.unusedSimpArgs false
namespace Go.Proofs.Ytgimohchocjgcaa.V.permAll
open Go.ChangeShapes Go.WideShapes Go.ChangeAt Go.RowKit
set_option maxRecDepth 100000 in
theorem runs (N : Nat) (x : TKs ([KQ.any K.int, KQ.ro3, KQ.ro3, KQ.any K.fr, KQ.any K.fr].map KQ.k)) : runFn pd (fun f => look f (env18 N)) Try.f18 (decUs [K.bool]) (mkLp pd (fun f => look f (env18 N)) (finish pd Try.f18 (decUs [K.bool])) N tab18 4) (encKs ([KQ.any K.int, KQ.ro3, KQ.ro3, KQ.any K.fr, KQ.any K.fr].map KQ.k) x) = p18 N x.1 x.2.1.1 x.2.1.2.1 x.2.1.2.2.1 x.2.2.1.1 x.2.2.1.2.1 x.2.2.1.2.2.1 x.2.2.2.1 x.2.2.2.2.1 := by kernel_rfl
set_option maxRecDepth 100000 in
theorem lifted (os : Os) (started : os.Started) (H : Type) (enc : TypeId × Value → H) :
    ReturnsInHanded {} Try.checked os 18 .any (Rows.permAllSpec.pre6 enc Try.prog Try.f18 Rows.permAllRow.domain false) (Rows.permAllSpec.post enc Try.prog Try.f18 false true false false) := by
  refine returnsInHanded_of_change (C := Try.checked) own started (by kernel_rfl) Try.func18
    (ChangeSpec.witness6 (enc := enc) (C := Try.checked) false ⟨#[], #[.int .i64 0, .agg #[.slice none 0 0, .slice none 0 0, .slice none 0 0], .agg #[.slice none 0 0, .slice none 0 0, .slice none 0 0], .agg #[.int .u64 0, .int .u64 0, .int .u64 0, .int .u64 0], .agg #[.int .u64 0, .int .u64 0, .int .u64 0, .int .u64 0]], []⟩ 8 (by kernel_rfl) (by kernel_rfl) (by kernel_rfl) (by kernel_rfl)) ?_
  intro W base args ds gs before hval hW hcnd _
  have hW' := hW
  obtain ⟨p, q, hA, hV, _⟩ := hW'
  have hp : Try.f18.params.toList = [3, 70, 70, 53, 53] := rfl
  have hlen := trodAll_len hA
  rw [hp] at hlen
  have hA' : DataW.TrodAll enc Try.prog W 0 (fun _ => true) true Try.f18.params.toList args.toList ds p := hA
  obtain ⟨x, hq, hx⟩ := opens_argsQ (base := base) (ks := [KQ.any K.int, KQ.ro3, KQ.ro3, KQ.any K.fr, KQ.any K.fr]) (ts := Try.f18.params.toList) ⟨oq3, oq70', oq70', oq53, oq53, trivial⟩ hA' (fun j t v hj hw => hval j t v (by rw [← Array.getElem?_toList]; exact hj) (by rw [← Array.getElem?_toList]; exact hw))
  obtain ⟨d0, d1, d2, d3, d4, rfl⟩ : ∃ d0 d1 d2 d3 d4, ds = [d0, d1, d2, d3, d4] := by
    match ds, hlen with
    | [d0, d1, d2, d3, d4], _ => exact ⟨_, _, _, _, _, rfl⟩
  obtain ⟨NN, hB, hl⟩ := fuel6 (x.2.1.1 : List Fr) (x.2.1.2.1 : List Fr) (x.2.1.2.2.1 : List Fr) (x.2.2.1.1 : List Fr) (x.2.2.1.2.1 : List Fr) (x.2.2.1.2.2.1 : List Fr)
  have hcall := sgK_calls1 pd_ok (env_look (env18_ok NN)) Try.func18 (name_ne (by kernel_rfl)) ([KQ.any K.int, KQ.ro3, KQ.ro3, KQ.any K.fr, KQ.any K.fr].map KQ.k) (fun x => p18 NN x.1 x.2.1.1 x.2.1.2.1 x.2.1.2.2.1 x.2.2.1.1 x.2.2.1.2.1 x.2.2.1.2.2.1 x.2.2.2.1 x.2.2.2.2.1) NN tab18 4 (runs NN)
    x (by rw [p18_t]; exact perm_all_plain _ _ _ _ _ _ _ _ _ hl.1 hl.2.1 hl.2.2.1 hl.2.2.2.1 hl.2.2.2.2.1 hl.2.2.2.2.2 hq.2.1.1 hq.2.1.2.1 hq.2.1.2.2 hq.2.2.1.1 hq.2.2.1.2.1 hq.2.2.1.2.2) W args.toList (fun b => b < W.heap.size) (fun _ h => h) hx
  rw [Array.toArray_toList] at hcall
  refine hcall.mono fun e W' ⟨he, hk⟩ => ⟨.bool true, he, ?_⟩
  exact law_post laid (by decide +kernel) rfl (tb := 4) rfl Try.underlying4 rfl hW hk
theorem named : Try.pinned.checked.prog.funcNamed Rows.permAllRow.func = some 18 := by kernel_rfl
theorem c3 : (Try.f18.params.all fun x => Try.pinned.checked.prog.readableRec x) = true := by kernel_rfl
theorem c9 : (Rows.permAllRow.inPlace == Try.pinned.checked.prog.inPlace 18) = true := by kernel_rfl
theorem c10 : (Rows.permAllRow.unfollowed == Try.pinned.checked.prog.unfollowed 18) = true := by kernel_rfl
theorem c11 : (Rows.permAllRow.recurses == Try.pinned.checked.prog.recurses 18) = true := by kernel_rfl
theorem c12 : (Rows.permAllRow.named == Try.pinned.checked.prog.varsNamed 18) = true := by kernel_rfl
theorem c26 : (Rows.permAllRow.lifted == Try.pinned.checked.prog.liftsFinal) = true := by
  have h : Try.pinned.checked.prog.liftsFinal = false := lifts_final
  rw [h]; rfl
theorem c27 : (Try.pinned.checked.prog.make == some Rows.permAllRow.make) = true := by
  have h : Try.pinned.checked.prog.make = some .cut := make_is
  rw [h]; rfl
set_option maxRecDepth 100000 in
theorem closed : joinedFacts Try.pinned.checked.prog 18 Try.f18 Rows.permAllSpec Rows.permAllRow = true := by
  unfold joinedFacts
  repeat' (with_reducible apply both)
  all_goals first
    | with_reducible exact laid
    | with_reducible exact rowed
    | with_reducible exact c3
    | with_reducible exact c9
    | with_reducible exact c10
    | with_reducible exact c11
    | with_reducible exact c12
    | with_reducible exact may_enter'
    | with_reducible exact c26
    | with_reducible exact c27
    | with_reducible exact heard
    | (as_aux_lemma => kernel_rfl)
theorem inst : Try.f18.isInstance Try.pinned.checked.prog Rows.permAllRow.origin Rows.permAllRow.targs := (of_decide_eq_true (by kernel_rfl))
theorem wrapper : Try.f18.isWrapper Try.pinned.checked.prog Rows.permAllRow.wrapper Rows.permAllRow.mainSum := by
  unfold Func.isWrapper
  first | (rw [if_pos (by decide +kernel)]; kernel_rfl) | (rw [if_neg (by decide +kernel)]; exact ⟨rfl, rfl⟩)
theorem over : Rows.permAllRow.holds Try.pinned (OpenSpec.ofChange Rows.permAllSpec) :=
  OpenClaim.holds_of_wide 18 Try.f18 rfl rfl rfl rfl rfl rfl rfl ⟨rfl, rfl, rfl, rfl, rfl⟩ rfl rfl rfl rfl rfl named Try.func18 closed inst wrapper
    (fun os started H enc _ => lifted os started H enc)
end Go.Proofs.Ytgimohchocjgcaa.V.permAll
namespace Go.Proofs.Ytgimohchocjgcaa
theorem permAll_holds : Rows.PermAllSaid := V.permAll.over
#print axioms permAll_holds
end Go.Proofs.Ytgimohchocjgcaa
