/- The walk of taken. Conditions: the bounds that are named. -/
import Derived.Test.YtjflllfkgbhemaaVp
import Derived.PlainAid
import Derived.BigQuiet
namespace Go.Proofs.Ytjflllfkgbhemaa
open Go.RowKit Go.PlainAid

/-- does the operand at i fit what is asked there? -/
def fitsV (op : Int) (s : ByteArray) (n i : Nat) : Bool :=
  ((takesL op)[i]? == some 3 || (takesL op)[i]? == some (bt s (n + i))) && !(op == 19 && bt s n != bt s (n + 1))
def pushV (op : Int) (s : ByteArray) (n : Nat) : ByteArray := if givesV op = 0 then s.extract 0 n else s.extract 0 n ++ ⟨#[(givesV op).toNat.toUInt8]⟩
def takenV (op : Int) (s : St) : St × Int :=
  if s.ty.size < (takesL op).length then (s, 93)
  else if op = 0 ∧ 0 < s.ty.size - (takesL op).length ∨ givesV op ≠ 0 ∧ 256 < s.ty.size - (takesL op).length + 1 then (s, 93)
  else if (List.range (takesL op).length).all (fitsV op s.ty (s.ty.size - (takesL op).length)) then ({ s with ty := pushV op s.ty (s.ty.size - (takesL op).length) }, 0) else (s, 94)
theorem takesL_len (op : Int) : (takesL op).length ≤ 2 := by
  unfold takesL
  repeat' split
  all_goals simp
theorem takesL_19 : takesL 19 = [3, 3] := rfl
theorem takesL_0 : takesL 0 = [] := rfl
theorem givesV_le (op : Int) : 0 ≤ givesV op ∧ givesV op ≤ 2 := by
  unfold givesV
  repeat' split
  all_goals simp
set_option linter.unusedVariables false in
set_option maxRecDepth 100000 in
set_option maxHeartbeats 4000000 in
theorem taken_low (w : World) (pv : Value) (op a b c d : Int) (oa : Option Addr) (ln ca : Nat) (s : St) (hs : s.ty.size ≤ 4194304)
    (hd : s.ty.size < (takesL op).length ∨ (takesL op).length ≤ s.ty.size ∧ (op = 0 ∧ 0 < s.ty.size - (takesL op).length ∨ givesV op ≠ 0 ∧ 256 < s.ty.size - (takesL op).length + 1)) :
    Calls Try.prog 46 #[pv, .agg #[.int .i64 op, .int .i64 a, .int .i64 b, .int .i64 c, .int .i64 d], .agg (s.cells (.slice oa ln ca))] w fun en w' => en = .returned (.tuple #[.agg (s.cells (.slice oa ln ca)), .int .i64 93]) ∧ Below w.heap.size w w' := by
  have hres : Try.f46.results = #[.cell 6 74, .tmp 7] := by kernel_rfl
  have hsh := fun W => hide (shapes_i W op)
  have hm := takesL_len op
  have hg := givesV_le op
  have hgb := get_bt s.ty
  obtain ⟨there, ty, ls, hand⟩ := s
  simp only [St.cells] at *
  have hX : Blk (((w.alloc (.cells #[.int .i64 op, .int .i64 a, .int .i64 b, .int .i64 c, .int .i64 d] 46)).alloc (.cells #[.bool there, .string ty, .int .i64 (lv ls 0), .int .i64 (lv ls 1), .int .i64 (lv ls 2), .int .i64 (lv ls 3), .int .i64 (lv ls 4), .int .i64 (lv ls 5), .int .i64 (lv ls 6), .int .i64 (lv ls 7), .int .i64 (ls.length : Int), .int .i64 hand, .slice oa ln ca] 74)).alloc (.cells #[.bool false, .string ⟨#[]⟩, .int .i64 0, .int .i64 0, .int .i64 0, .int .i64 0, .int .i64 0, .int .i64 0, .int .i64 0, .int .i64 0, .int .i64 0, .int .i64 0, .slice none 0 0] 74)) w.heap.size 46 #[.int .i64 op, .int .i64 a, .int .i64 b, .int .i64 c, .int .i64 d] := ((Blk.new w 46 _).alloc _).alloc _
  have hS : Blk (((w.alloc (.cells #[.int .i64 op, .int .i64 a, .int .i64 b, .int .i64 c, .int .i64 d] 46)).alloc (.cells #[.bool there, .string ty, .int .i64 (lv ls 0), .int .i64 (lv ls 1), .int .i64 (lv ls 2), .int .i64 (lv ls 3), .int .i64 (lv ls 4), .int .i64 (lv ls 5), .int .i64 (lv ls 6), .int .i64 (lv ls 7), .int .i64 (ls.length : Int), .int .i64 hand, .slice oa ln ca] 74)).alloc (.cells #[.bool false, .string ⟨#[]⟩, .int .i64 0, .int .i64 0, .int .i64 0, .int .i64 0, .int .i64 0, .int .i64 0, .int .i64 0, .int .i64 0, .int .i64 0, .int .i64 0, .slice none 0 0] 74)) (w.heap.size + 1) 74 #[.bool there, .string ty, .int .i64 (lv ls 0), .int .i64 (lv ls 1), .int .i64 (lv ls 2), .int .i64 (lv ls 3), .int .i64 (lv ls 4), .int .i64 (lv ls 5), .int .i64 (lv ls 6), .int .i64 (lv ls 7), .int .i64 (ls.length : Int), .int .i64 hand, .slice oa ln ca] := by
    have := (Blk.new (w.alloc (.cells #[.int .i64 op, .int .i64 a, .int .i64 b, .int .i64 c, .int .i64 d] 46)) 74 #[.bool there, .string ty, .int .i64 (lv ls 0), .int .i64 (lv ls 1), .int .i64 (lv ls 2), .int .i64 (lv ls 3), .int .i64 (lv ls 4), .int .i64 (lv ls 5), .int .i64 (lv ls 6), .int .i64 (lv ls 7), .int .i64 (ls.length : Int), .int .i64 hand, .slice oa ln ca]).alloc (.cells #[.bool false, .string ⟨#[]⟩, .int .i64 0, .int .i64 0, .int .i64 0, .int .i64 0, .int .i64 0, .int .i64 0, .int .i64 0, .int .i64 0, .int .i64 0, .int .i64 0, .slice none 0 0] 74)
    simpa using this
  have hR : Blk (((w.alloc (.cells #[.int .i64 op, .int .i64 a, .int .i64 b, .int .i64 c, .int .i64 d] 46)).alloc (.cells #[.bool there, .string ty, .int .i64 (lv ls 0), .int .i64 (lv ls 1), .int .i64 (lv ls 2), .int .i64 (lv ls 3), .int .i64 (lv ls 4), .int .i64 (lv ls 5), .int .i64 (lv ls 6), .int .i64 (lv ls 7), .int .i64 (ls.length : Int), .int .i64 hand, .slice oa ln ca] 74)).alloc (.cells #[.bool false, .string ⟨#[]⟩, .int .i64 0, .int .i64 0, .int .i64 0, .int .i64 0, .int .i64 0, .int .i64 0, .int .i64 0, .int .i64 0, .int .i64 0, .int .i64 0, .slice none 0 0] 74)) (w.heap.size + 1 + 1) 74 #[.bool false, .string ⟨#[]⟩, .int .i64 0, .int .i64 0, .int .i64 0, .int .i64 0, .int .i64 0, .int .i64 0, .int .i64 0, .int .i64 0, .int .i64 0, .int .i64 0, .slice none 0 0] := by
    have := Blk.new ((w.alloc (.cells #[.int .i64 op, .int .i64 a, .int .i64 b, .int .i64 c, .int .i64 d] 46)).alloc (.cells #[.bool there, .string ty, .int .i64 (lv ls 0), .int .i64 (lv ls 1), .int .i64 (lv ls 2), .int .i64 (lv ls 3), .int .i64 (lv ls 4), .int .i64 (lv ls 5), .int .i64 (lv ls 6), .int .i64 (lv ls 7), .int .i64 (ls.length : Int), .int .i64 hand, .slice oa ln ca] 74)) 74 #[.bool false, .string ⟨#[]⟩, .int .i64 0, .int .i64 0, .int .i64 0, .int .i64 0, .int .i64 0, .int .i64 0, .int .i64 0, .int .i64 0, .int .i64 0, .int .i64 0, .slice none 0 0]
    simpa using this
  have hL : Below w.heap.size w (((w.alloc (.cells #[.int .i64 op, .int .i64 a, .int .i64 b, .int .i64 c, .int .i64 d] 46)).alloc (.cells #[.bool there, .string ty, .int .i64 (lv ls 0), .int .i64 (lv ls 1), .int .i64 (lv ls 2), .int .i64 (lv ls 3), .int .i64 (lv ls 4), .int .i64 (lv ls 5), .int .i64 (lv ls 6), .int .i64 (lv ls 7), .int .i64 (ls.length : Int), .int .i64 hand, .slice oa ln ca] 74)).alloc (.cells #[.bool false, .string ⟨#[]⟩, .int .i64 0, .int .i64 0, .int .i64 0, .int .i64 0, .int .i64 0, .int .i64 0, .int .i64 0, .int .i64 0, .int .i64 0, .int .i64 0, .slice none 0 0] 74)) := (((Below.refl _ w).alloc (Nat.le_refl _) _).alloc (by simp) _).alloc (by simp; omega) _
  have HX := hide hX
  have HS := hide hS
  have HR := hide hR
  have HL := hide hL
  clear hX hS hR hL
  generalize takesL op = L at *
  generalize givesV op = G at *
  generalize hml : L.length = m at *
  obtain ⟨N, hsz⟩ : ∃ N, ty.size = N := ⟨_, rfl⟩
  rw [hsz] at hs hd
  have w1 := IntWalk.i64_in ((N : Int) - (m : Int)) (by omega)
  have w2 := IntWalk.i64_in ((N : Int) - (m : Int) + 1) (by omega)
  have hb : (N : Int) - (m : Int) < 0 ∨ op = 0 ∧ 0 < (N : Int) - (m : Int) ∨ ¬ G = 0 ∧ 256 < (N : Int) - (m : Int) + 1 := by omega
  clear hd
  go_enter Try.func46, Try.ntmps46
  go_wp2_with (go_at_call 68
               refine (hsh _).out.mono ?_
               rintro en w2 ⟨tv, rfl, ⟨ot, ct, rfl, ht⟩, hb2⟩
               try rw [hml]
               have kX := (HX.out.below hb2 HX.out.lt).alloc (.cells #[.slice ot m ct, .int .i64 G] 137)
               have kS := (HS.out.below hb2 HS.out.lt).alloc (.cells #[.slice ot m ct, .int .i64 G] 137)
               have kR := (HR.out.below hb2 HR.out.lt).alloc (.cells #[.slice ot m ct, .int .i64 G] 137)
               have kH := Blk.new w2 137 #[.slice ot m ct, .int .i64 G]
               have x0 : (w2.alloc (.cells #[.slice ot m ct, .int .i64 G] 137)).cell? ⟨w.heap.size, 0, none⟩ = some (.int .i64 op) := by rw [kX.cell]; rfl
               have s0 : (w2.alloc (.cells #[.slice ot m ct, .int .i64 G] 137)).cell? ⟨w.heap.size + 1, 0, none⟩ = some (.bool there) := by rw [kS.cell]; rfl
               have sf0 := kS.frozen 0
               have s1 : (w2.alloc (.cells #[.slice ot m ct, .int .i64 G] 137)).cell? ⟨w.heap.size + 1, 1, none⟩ = some (.string ty) := by rw [kS.cell]; rfl
               have sf1 := kS.frozen 1
               have s2 : (w2.alloc (.cells #[.slice ot m ct, .int .i64 G] 137)).cell? ⟨w.heap.size + 1, 2, none⟩ = some (.int .i64 (lv ls 0)) := by rw [kS.cell]; rfl
               have sf2 := kS.frozen 2
               have s3 : (w2.alloc (.cells #[.slice ot m ct, .int .i64 G] 137)).cell? ⟨w.heap.size + 1, 3, none⟩ = some (.int .i64 (lv ls 1)) := by rw [kS.cell]; rfl
               have sf3 := kS.frozen 3
               have s4 : (w2.alloc (.cells #[.slice ot m ct, .int .i64 G] 137)).cell? ⟨w.heap.size + 1, 4, none⟩ = some (.int .i64 (lv ls 2)) := by rw [kS.cell]; rfl
               have sf4 := kS.frozen 4
               have s5 : (w2.alloc (.cells #[.slice ot m ct, .int .i64 G] 137)).cell? ⟨w.heap.size + 1, 5, none⟩ = some (.int .i64 (lv ls 3)) := by rw [kS.cell]; rfl
               have sf5 := kS.frozen 5
               have s6 : (w2.alloc (.cells #[.slice ot m ct, .int .i64 G] 137)).cell? ⟨w.heap.size + 1, 6, none⟩ = some (.int .i64 (lv ls 4)) := by rw [kS.cell]; rfl
               have sf6 := kS.frozen 6
               have s7 : (w2.alloc (.cells #[.slice ot m ct, .int .i64 G] 137)).cell? ⟨w.heap.size + 1, 7, none⟩ = some (.int .i64 (lv ls 5)) := by rw [kS.cell]; rfl
               have sf7 := kS.frozen 7
               have s8 : (w2.alloc (.cells #[.slice ot m ct, .int .i64 G] 137)).cell? ⟨w.heap.size + 1, 8, none⟩ = some (.int .i64 (lv ls 6)) := by rw [kS.cell]; rfl
               have sf8 := kS.frozen 8
               have s9 : (w2.alloc (.cells #[.slice ot m ct, .int .i64 G] 137)).cell? ⟨w.heap.size + 1, 9, none⟩ = some (.int .i64 (lv ls 7)) := by rw [kS.cell]; rfl
               have sf9 := kS.frozen 9
               have s10 : (w2.alloc (.cells #[.slice ot m ct, .int .i64 G] 137)).cell? ⟨w.heap.size + 1, 10, none⟩ = some (.int .i64 (ls.length : Int)) := by rw [kS.cell]; rfl
               have sf10 := kS.frozen 10
               have s11 : (w2.alloc (.cells #[.slice ot m ct, .int .i64 G] 137)).cell? ⟨w.heap.size + 1, 11, none⟩ = some (.int .i64 hand) := by rw [kS.cell]; rfl
               have sf11 := kS.frozen 11
               have s12 : (w2.alloc (.cells #[.slice ot m ct, .int .i64 G] 137)).cell? ⟨w.heap.size + 1, 12, none⟩ = some (.slice oa ln ca) := by rw [kS.cell]; rfl
               have sf12 := kS.frozen 12
               have r0 : (w2.alloc (.cells #[.slice ot m ct, .int .i64 G] 137)).cell? ⟨w.heap.size + 1 + 1, 0, none⟩ = some (.bool false) := by rw [kR.cell]; rfl
               have rf0 := kR.frozen 0
               have r1 : (w2.alloc (.cells #[.slice ot m ct, .int .i64 G] 137)).cell? ⟨w.heap.size + 1 + 1, 1, none⟩ = some (.string ⟨#[]⟩) := by rw [kR.cell]; rfl
               have rf1 := kR.frozen 1
               have r2 : (w2.alloc (.cells #[.slice ot m ct, .int .i64 G] 137)).cell? ⟨w.heap.size + 1 + 1, 2, none⟩ = some (.int .i64 0) := by rw [kR.cell]; rfl
               have rf2 := kR.frozen 2
               have r3 : (w2.alloc (.cells #[.slice ot m ct, .int .i64 G] 137)).cell? ⟨w.heap.size + 1 + 1, 3, none⟩ = some (.int .i64 0) := by rw [kR.cell]; rfl
               have rf3 := kR.frozen 3
               have r4 : (w2.alloc (.cells #[.slice ot m ct, .int .i64 G] 137)).cell? ⟨w.heap.size + 1 + 1, 4, none⟩ = some (.int .i64 0) := by rw [kR.cell]; rfl
               have rf4 := kR.frozen 4
               have r5 : (w2.alloc (.cells #[.slice ot m ct, .int .i64 G] 137)).cell? ⟨w.heap.size + 1 + 1, 5, none⟩ = some (.int .i64 0) := by rw [kR.cell]; rfl
               have rf5 := kR.frozen 5
               have r6 : (w2.alloc (.cells #[.slice ot m ct, .int .i64 G] 137)).cell? ⟨w.heap.size + 1 + 1, 6, none⟩ = some (.int .i64 0) := by rw [kR.cell]; rfl
               have rf6 := kR.frozen 6
               have r7 : (w2.alloc (.cells #[.slice ot m ct, .int .i64 G] 137)).cell? ⟨w.heap.size + 1 + 1, 7, none⟩ = some (.int .i64 0) := by rw [kR.cell]; rfl
               have rf7 := kR.frozen 7
               have r8 : (w2.alloc (.cells #[.slice ot m ct, .int .i64 G] 137)).cell? ⟨w.heap.size + 1 + 1, 8, none⟩ = some (.int .i64 0) := by rw [kR.cell]; rfl
               have rf8 := kR.frozen 8
               have r9 : (w2.alloc (.cells #[.slice ot m ct, .int .i64 G] 137)).cell? ⟨w.heap.size + 1 + 1, 9, none⟩ = some (.int .i64 0) := by rw [kR.cell]; rfl
               have rf9 := kR.frozen 9
               have r10 : (w2.alloc (.cells #[.slice ot m ct, .int .i64 G] 137)).cell? ⟨w.heap.size + 1 + 1, 10, none⟩ = some (.int .i64 0) := by rw [kR.cell]; rfl
               have rf10 := kR.frozen 10
               have r11 : (w2.alloc (.cells #[.slice ot m ct, .int .i64 G] 137)).cell? ⟨w.heap.size + 1 + 1, 11, none⟩ = some (.int .i64 0) := by rw [kR.cell]; rfl
               have rf11 := kR.frozen 11
               have r12 : (w2.alloc (.cells #[.slice ot m ct, .int .i64 G] 137)).cell? ⟨w.heap.size + 1 + 1, 12, none⟩ = some (.slice none 0 0) := by rw [kR.cell]; rfl
               have rf12 := kR.frozen 12
               have HB2 := hide (HL.out.trans (hb2.mono HL.out.size))
               have KX := hide kX
               have KS := hide kS
               have KR := hide kR
               have KH := hide kH
               clear ht hb2 kX kS kR kH)
  all_goals first | (exfalso; omega) | (exfalso; simp only [bne_eq_false_iff_eq] at *; omega) | skip
  all_goals
    rw [put13_eq]
    have kZ := blk13 (.bool there) (.string ty) (.int .i64 (lv ls 0)) (.int .i64 (lv ls 1)) (.int .i64 (lv ls 2)) (.int .i64 (lv ls 3)) (.int .i64 (lv ls 4)) (.int .i64 (lv ls 5)) (.int .i64 (lv ls 6)) (.int .i64 (lv ls 7)) (.int .i64 (ls.length : Int)) (.int .i64 hand) (.slice oa ln ca) KR.out rfl
    have hB : Below w.heap.size w (put13 (w2.alloc (.cells #[.slice ot m ct, .int .i64 G] 137)) (w.heap.size + 1 + 1) (.bool there) (.string ty) (.int .i64 (lv ls 0)) (.int .i64 (lv ls 1)) (.int .i64 (lv ls 2)) (.int .i64 (lv ls 3)) (.int .i64 (lv ls 4)) (.int .i64 (lv ls 5)) (.int .i64 (lv ls 6)) (.int .i64 (lv ls 7)) (.int .i64 (ls.length : Int)) (.int .i64 hand) (.slice oa ln ca)) := below13 (.bool there) (.string ty) (.int .i64 (lv ls 0)) (.int .i64 (lv ls 1)) (.int .i64 (lv ls 2)) (.int .i64 (lv ls 3)) (.int .i64 (lv ls 4)) (.int .i64 (lv ls 5)) (.int .i64 (lv ls 6)) (.int .i64 (lv ls 7)) (.int .i64 (ls.length : Int)) (.int .i64 hand) (.slice oa ln ca) (HB2.out.alloc HB2.out.size _) (by omega)
    generalize put13 (w2.alloc (.cells #[.slice ot m ct, .int .i64 G] 137)) (w.heap.size + 1 + 1) (.bool there) (.string ty) (.int .i64 (lv ls 0)) (.int .i64 (lv ls 1)) (.int .i64 (lv ls 2)) (.int .i64 (lv ls 3)) (.int .i64 (lv ls 4)) (.int .i64 (lv ls 5)) (.int .i64 (lv ls 6)) (.int .i64 (lv ls 7)) (.int .i64 (ls.length : Int)) (.int .i64 hand) (.slice oa ln ca) = Wz at *
    have z0 : Wz.cell? ⟨w.heap.size + 1 + 1, 0, none⟩ = some (.bool there) := by rw [kZ.cell]; rfl
    have z1 : Wz.cell? ⟨w.heap.size + 1 + 1, 1, none⟩ = some (.string ty) := by rw [kZ.cell]; rfl
    have z2 : Wz.cell? ⟨w.heap.size + 1 + 1, 2, none⟩ = some (.int .i64 (lv ls 0)) := by rw [kZ.cell]; rfl
    have z3 : Wz.cell? ⟨w.heap.size + 1 + 1, 3, none⟩ = some (.int .i64 (lv ls 1)) := by rw [kZ.cell]; rfl
    have z4 : Wz.cell? ⟨w.heap.size + 1 + 1, 4, none⟩ = some (.int .i64 (lv ls 2)) := by rw [kZ.cell]; rfl
    have z5 : Wz.cell? ⟨w.heap.size + 1 + 1, 5, none⟩ = some (.int .i64 (lv ls 3)) := by rw [kZ.cell]; rfl
    have z6 : Wz.cell? ⟨w.heap.size + 1 + 1, 6, none⟩ = some (.int .i64 (lv ls 4)) := by rw [kZ.cell]; rfl
    have z7 : Wz.cell? ⟨w.heap.size + 1 + 1, 7, none⟩ = some (.int .i64 (lv ls 5)) := by rw [kZ.cell]; rfl
    have z8 : Wz.cell? ⟨w.heap.size + 1 + 1, 8, none⟩ = some (.int .i64 (lv ls 6)) := by rw [kZ.cell]; rfl
    have z9 : Wz.cell? ⟨w.heap.size + 1 + 1, 9, none⟩ = some (.int .i64 (lv ls 7)) := by rw [kZ.cell]; rfl
    have z10 : Wz.cell? ⟨w.heap.size + 1 + 1, 10, none⟩ = some (.int .i64 (ls.length : Int)) := by rw [kZ.cell]; rfl
    have z11 : Wz.cell? ⟨w.heap.size + 1 + 1, 11, none⟩ = some (.int .i64 hand) := by rw [kZ.cell]; rfl
    have z12 : Wz.cell? ⟨w.heap.size + 1 + 1, 12, none⟩ = some (.slice oa ln ca) := by rw [kZ.cell]; rfl
    refine bodyPost_ret (v := .tuple #[.agg #[.bool there, .string ty, .int .i64 (lv ls 0), .int .i64 (lv ls 1), .int .i64 (lv ls 2), .int .i64 (lv ls 3), .int .i64 (lv ls 4), .int .i64 (lv ls 5), .int .i64 (lv ls 6), .int .i64 (lv ls 7), .int .i64 (ls.length : Int), .int .i64 hand, .slice oa ln ca], .int .i64 93]) ?_ rfl ⟨rfl, hB⟩
    simp only [results, hres]
    go_simp
end Go.Proofs.Ytjflllfkgbhemaa
