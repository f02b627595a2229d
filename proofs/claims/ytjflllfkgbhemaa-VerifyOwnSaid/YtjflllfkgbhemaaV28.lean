/- jumps, as one law. Conditions: the bounds that are named. -/
import Derived.Test.YtjflllfkgbhemaaV25
import Derived.Test.YtjflllfkgbhemaaV26
import Derived.Test.YtjflllfkgbhemaaV27
namespace Go.Proofs.Ytjflllfkgbhemaa
open Go.RowKit
theorem jumps_i (w : World) (vb rb : Nat) (p : PV) (P : Prg) (ats : List St) (h : VMem w vb rb p P ats) (hn : P.cd.length ≤ 262144) (ho : P.os.length ≤ 4194304) (at_ : Nat) (hat : at_ < P.cd.length) (x : Ins) (v : Value) (s : St) (hs : StM w v s)
    (hl : s.ls.length ≤ 4194304) (hin : innerV s.ls = -1 ∨ pIn P (innerV s.ls)) (hla : ∀ (i : Nat) (x : St), ats[i]? = some x → x.ls.length ≤ 4194304) (ha : x.op = 22 ∨ x.op = 23 ∨ x.op = 25 ∨ x.op = 26 → pIn P x.a) :
    Calls Try.prog 48 #[.pointer (some ⟨vb, 0, none⟩), .int .i64 (at_ : Int), .agg #[.int .i64 x.op, .int .i64 x.a, .int .i64 x.b, .int .i64 x.c, .int .i64 x.d], v] w fun en w' => en = .returned (.bool (jumpsV P at_ x s ats)) ∧ Below w.heap.size w w' := by
  obtain ⟨op, a, b, c, d⟩ := x
  simp only at ha ⊢
  have hb : ∀ o, jbad P at_ ⟨o, a, b, c, d⟩ = jbad P at_ ⟨0, a, b, c, d⟩ := fun _ => rfl
  by_cases o22 : op = 22
  · subst o22
    have hp := ha (by omega)
    cases hj : jbad P at_ ⟨22, a, b, c, d⟩
    · have e : jumpsV P at_ ⟨22, a, b, c, d⟩ s ats = true := by simp [jumpsV, hj]
      rw [e]
      exact jumps_good22 w vb rb p P ats h hn at_ hat a b c d v s hs hp hj
    · have e : jumpsV P at_ ⟨22, a, b, c, d⟩ s ats = false := by simp [jumpsV, hj]
      rw [e]
      exact jumps_bad22 w vb rb p P ats h hn at_ hat a b c d v s hs hp hj
  by_cases o23 : op = 23
  · subst o23
    have hp := ha (by omega)
    cases hj : jbad P at_ ⟨23, a, b, c, d⟩
    · have e : jumpsV P at_ ⟨23, a, b, c, d⟩ s ats = true := by simp [jumpsV, hj]
      rw [e]
      exact jumps_good23 w vb rb p P ats h hn at_ hat a b c d v s hs hp hj
    · have e : jumpsV P at_ ⟨23, a, b, c, d⟩ s ats = false := by simp [jumpsV, hj]
      rw [e]
      exact jumps_bad23 w vb rb p P ats h hn at_ hat a b c d v s hs hp hj
  by_cases o24 : op = 24
  · subst o24
    exact jumps_24 w vb rb p P ats h hn at_ hat a b c d v s hs
  by_cases o25 : op = 25
  · subst o25
    have hp := ha (by omega)
    cases hj : jbad P at_ ⟨25, a, b, c, d⟩
    · have e : jumpsV P at_ ⟨25, a, b, c, d⟩ s ats = (decide (0 < at_) && (insAt P ((at_ : Int) - 1)).op == 24 && P.miss != at_ && !decide ((at_ : Int) ∈ P.os)) := by
        unfold jumpsV
        rw [hj]
        rfl
      rw [e]
      exact jumps_25 w vb rb p P ats h hn at_ hat a b c d v s hs ho hp hj
    · have e : jumpsV P at_ ⟨25, a, b, c, d⟩ s ats = false := by simp [jumpsV, hj]
      rw [e]
      exact jumps_bad25 w vb rb p P ats h hn at_ hat a b c d v s hs hp hj
  by_cases o26 : op = 26
  · subst o26
    have hp := ha (by omega)
    cases hj : jbad P at_ ⟨26, a, b, c, d⟩
    · have e : jumpsV P at_ ⟨26, a, b, c, d⟩ s ats = (decide (0 ≤ innerV s.ls) && a == (insAt P (innerV s.ls)).a) := by
        unfold jumpsV
        rw [hj]
        rfl
      rw [e]
      exact jumps_26 w vb rb p P ats h hn at_ hat a b c d v s hs hl hin hp hj
    · have e : jumpsV P at_ ⟨26, a, b, c, d⟩ s ats = false := by simp [jumpsV, hj]
      rw [e]
      exact jumps_bad26 w vb rb p P ats h hn at_ hat a b c d v s hs hp hj
  by_cases o27 : op = 27
  · subst o27
    exact jumps_27 w vb rb p P ats h hn at_ hat a b c d v s hs hl hin hla
  by_cases o0 : op = 0
  · subst o0
    exact jumps_0 w vb rb p P ats h hn at_ hat a b c d v s hs
  · have e : jumpsV P at_ ⟨op, a, b, c, d⟩ s ats = true := by simp [jumpsV, *]
    rw [e]
    exact jumps_else w vb rb p P ats h hn at_ hat op a b c d v s hs o0 o22 o23 o24 o25 o26 o27
end Go.Proofs.Ytjflllfkgbhemaa
