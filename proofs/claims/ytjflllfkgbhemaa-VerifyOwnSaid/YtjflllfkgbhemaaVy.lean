/- A standing that is stored into the verifier's row, as a law for the walk. Conditions: those that are named. -/
import Derived.Test.YtjflllfkgbhemaaVq
import Derived.Laws.IdiomCopy
namespace Go.Proofs.Ytjflllfkgbhemaa
open Go.RowKit
theorem info74c : (Try.prog.info? 74).map (fun i => (i.zero, i.size, i.bytes)) = some (some (.agg ((⟨false, ⟨#[]⟩, [], 0⟩ : St).cells (.slice none 0 0))), 13, 128) := by kernel_rfl
theorem setCell_drew (w : World) (a : Addr) (v : Value) : (w.setCell a v).drew = w.drew.setCell a v := rfl
theorem putAt_drew (w : World) (rb n : Nat) (v0 v1 v2 v3 v4 v5 v6 v7 v8 v9 v10 v11 v12 : Value) : (putAt w rb n v0 v1 v2 v3 v4 v5 v6 v7 v8 v9 v10 v11 v12).drew = putAt w.drew rb n v0 v1 v2 v3 v4 v5 v6 v7 v8 v9 v10 v11 v12 := by
  simp only [putAt, setCell_drew]
theorem store74 (ad : Addr) (xs : Array Value) (h : xs.size = 13) {W W' : World} (hst : (storeCells ad xs.toList).run Try.prog W = .ok () W') : (Instr.storeAt 74 (.pointer (some ad)) (.agg xs)).run Try.prog W = .ok () W' := by
  obtain ⟨i, hi, hz0, hz1, _⟩ := info_parts info74c
  simp [Instr.storeAt, storeVar, sizeOf, typeInfo, hi, hz1, Value.cells, h, hst, go_sem]
theorem wpList_put13 {ops : Array Oper} {rest : List Oper} {o : Oper} {a : Act} {Q : Exit → Act → World → Prop} (hg : o.guard = none) (p v : Operand) (ho : o.op = .store 74 p v) (hd : o.dst = none)
    {W : World} {rb n : Nat} {cs : Array Value} (kr : Blk W rb 74 cs) (hsz : n * 13 + 12 < cs.size) (v0 v1 v2 v3 v4 v5 v6 v7 v8 v9 v10 v11 v12 : Value)
    (hp : a.eval p = .pointer (some ⟨rb, n * 13, none⟩)) (hv : a.eval v = .agg #[v0, v1, v2, v3, v4, v5, v6, v7, v8, v9, v10, v11, v12])
    (h1 : ∀ u ∈ [v0, v1, v2, v3, v4, v5, v6, v7, v8, v9, v10, v11, v12], u.oneCell' = true)
    (h : wpList Try.prog ops Q rest a (putAt W rb n v0 v1 v2 v3 v4 v5 v6 v7 v8 v9 v10 v11 v12)) : wpList Try.prog ops Q (o :: rest) a W := by
  refine wpList_plain hg fun K hK => ?_
  have hst := run_storeCells_cells (P := Try.prog) rb (n * 13) [v0, v1, v2, v3, v4, v5, v6, v7, v8, v9, v10, v11, v12] 0 W (fun j hj => by
      simp at hj
      rw [kr.cell, Array.getElem?_eq_getElem (by omega)]; rfl) (fun j hj => kr.frozen _) h1
  obtain ⟨i, hi, hz0, hz1, _⟩ := info_parts info74c
  unfold Oper.wp
  have e : W.setCells rb (n * 13 + 0) [v0, v1, v2, v3, v4, v5, v6, v7, v8, v9, v10, v11, v12] = putAt W rb n v0 v1 v2 v3 v4 v5 v6 v7 v8 v9 v10 v11 v12 := rfl
  rw [e] at hst
  have hs : (Instr.storeAt 74 (.pointer (some ⟨rb, n * 13, none⟩)) (.agg #[v0, v1, v2, v3, v4, v5, v6, v7, v8, v9, v10, v11, v12])).run Try.prog W = .ok () (putAt W rb n v0 v1 v2 v3 v4 v5 v6 v7 v8 v9 v10 v11 v12) := store74 _ _ rfl hst
  simp [execOp, ho, hp, hv, hs, Result.andThen, Oper.upon]
  rw [hd]
  exact hK _ _ h
end Go.Proofs.Ytjflllfkgbhemaa
