import Derived.Test.YtgimohchocjgcaaVRW
import Derived.Test.YtgimohchocjgcaaVEA5
import Derived.Test.YtgimohchocjgcaaVOS
set_option linter.unusedVariables false
set_option linter.unusedSimpArgs false
namespace Go.Proofs.Ytgimohchocjgcaa.V.evalAll
open Go.ChangeShapes Go.WideShapes Go.ChangeAt Go.RowKit
set_option maxRecDepth 100000 in
theorem runs (N : Nat) (x : TKs ([KQ.any (K.ro .u8), KQ.any K.int, KQ.any K.u8, KQ.any K.fr, KQ.any K.bool].map KQ.k)) : zj0 pd (fun f => look f (zyy N)) Try.f39 (zcq [K.bool]) (mkLp pd (fun f => look f (zyy N)) (zdf pd Try.f39 (zcq [K.bool])) N zBy 4) (zfc ([KQ.any (K.ro .u8), KQ.any K.int, KQ.any K.u8, KQ.any K.fr, KQ.any K.bool].map KQ.k) x) = p39 N x.1 x.2.1 x.2.2.1 x.2.2.2.1 x.2.2.2.2.1 := by kernel_rfl
set_option maxRecDepth 100000 in
theorem lifted (os : Os) (started : os.Started) (H : Type) (enc : TypeId × Value -> H) :
  ReturnsInHanded {} Try.checked os 39 .any (Rows.evalAllSpec.pre6 enc Try.prog Try.f39 Rows.evalAllRow.domain false) (Rows.evalAllSpec.post enc Try.prog Try.f39 false true false false) := by
 refine returnsInHanded_of_change (C := Try.checked) own started (by kernel_rfl) Try.func39
  (ChangeSpec.witness6 (enc := enc) (C := Try.checked) false ⟨#[], #[.slice none 0 0, .int .i64 0, .int .u8 0, .agg #[.int .u64 0, .int .u64 0, .int .u64 0, .int .u64 0], .bool false], []⟩ 8 (by kernel_rfl) (by kernel_rfl) (by kernel_rfl) (by kernel_rfl)) ?_
 intro W base args ds gs before hval hW hcnd _
 have hW' := hW
 obtain ⟨p, q, hA, hV, _⟩ := hW'
 have hp : Try.f39.params.toList = [24, 3, 5, 53, 4] := rfl
 have hlen := zhB hA
 rw [hp] at hlen
 have hA' : DataW.TrodAll enc Try.prog W 0 (fun _ => true) true Try.f39.params.toList args.toList ds p := hA
 obtain ⟨x, hq, hx⟩ := zhE (base := base) (ks := [KQ.any (K.ro .u8), KQ.any K.int, KQ.any K.u8, KQ.any K.fr, KQ.any K.bool]) (ts := Try.f39.params.toList) ⟨oq24, oq3, oq5, oq53, oq4, trivial⟩ hA' (fun j t v hj hw => hval j t v (by rw [← Array.getElem?_toList]; exact hj) (by rw [← Array.getElem?_toList]; exact hw))
 obtain ⟨d0, d1, d2, d3, d4, rfl⟩ : ∃ d0 d1 d2 d3 d4, ds = [d0, d1, d2, d3, d4] := by
  match ds, hlen with
  | [d0, d1, d2, d3, d4], _ => exact ⟨_, _, _, _, _, rfl⟩
 have hcall := zo0 zaN (zaj (zuP 100000)) Try.func39 (zap (by kernel_rfl)) ([KQ.any (K.ro .u8), KQ.any K.int, KQ.any K.u8, KQ.any K.fr, KQ.any K.bool].map KQ.k) (fun x => p39 100000 x.1 x.2.1 x.2.2.1 x.2.2.2.1 x.2.2.2.2.1) 100000 zBy 4 (runs 100000)
  x (by rw [zEv]; exact zhN _ _ _ _ _) W args.toList (fun b => b < W.heap.size) (fun _ h => h) hx
 rw [Array.toArray_toList] at hcall
 refine hcall.mono fun e W' ⟨he, hk⟩ => ⟨.bool true, he, ?_⟩
 exact zv8 laid (by decide +kernel) rfl (tb := 4) rfl Try.underlying4 rfl hW hk
theorem named : Try.pinned.checked.prog.funcNamed Rows.evalAllRow.func = some 39 := by kernel_rfl
theorem c3 : (Try.f39.params.all fun x => Try.pinned.checked.prog.readableRec x) = true := by kernel_rfl
theorem c9 : (Rows.evalAllRow.inPlace == Try.pinned.checked.prog.inPlace 39) = true := by kernel_rfl
theorem c10 : (Rows.evalAllRow.unfollowed == Try.pinned.checked.prog.unfollowed 39) = true := by kernel_rfl
theorem c11 : (Rows.evalAllRow.recurses == Try.pinned.checked.prog.recurses 39) = true := by kernel_rfl
theorem c12 : (Rows.evalAllRow.named == Try.pinned.checked.prog.varsNamed 39) = true := by kernel_rfl
theorem c26 : (Rows.evalAllRow.lifted == Try.pinned.checked.prog.liftsFinal) = true := by
 have h : Try.pinned.checked.prog.liftsFinal = false := zk3
 rw [h]; rfl
theorem c27 : (Try.pinned.checked.prog.make == some Rows.evalAllRow.make) = true := by
 have h : Try.pinned.checked.prog.make = some .cut := zw6
 rw [h]; rfl
set_option maxRecDepth 100000 in
theorem closed : joinedFacts Try.pinned.checked.prog 39 Try.f39 Rows.evalAllSpec Rows.evalAllRow = true := by
 unfold joinedFacts
 repeat' (with_reducible apply both)
 all_goals first
  | with_reducible exact laid
  | with_reducible exact zEx
  | with_reducible exact c3
  | with_reducible exact c9
  | with_reducible exact c10
  | with_reducible exact c11
  | with_reducible exact c12
  | with_reducible exact zoW
  | with_reducible exact c26
  | with_reducible exact c27
  | with_reducible exact zEy
  | (as_aux_lemma => kernel_rfl)
theorem inst : Try.f39.isInstance Try.pinned.checked.prog Rows.evalAllRow.origin Rows.evalAllRow.targs := (of_decide_eq_true (by kernel_rfl))
theorem wrapper : Try.f39.isWrapper Try.pinned.checked.prog Rows.evalAllRow.wrapper Rows.evalAllRow.mainSum := by
 unfold Func.isWrapper
 first | (rw [if_pos (by decide +kernel)]; kernel_rfl) | (rw [if_neg (by decide +kernel)]; exact ⟨rfl, rfl⟩)
theorem over : Rows.evalAllRow.holds Try.pinned (OpenSpec.ofChange Rows.evalAllSpec) :=
 OpenClaim.holds_of_wide 39 Try.f39 rfl rfl rfl rfl rfl rfl rfl ⟨rfl, rfl, rfl, rfl, rfl⟩ rfl rfl rfl rfl rfl named Try.func39 closed inst wrapper
  (fun os started H enc _ => lifted os started H enc)
end Go.Proofs.Ytgimohchocjgcaa.V.evalAll
namespace Go.Proofs.Ytgimohchocjgcaa
theorem evalAll_holds : Rows.EvalAllSaid := V.evalAll.over
#print axioms evalAll_holds
end Go.Proofs.Ytgimohchocjgcaa
