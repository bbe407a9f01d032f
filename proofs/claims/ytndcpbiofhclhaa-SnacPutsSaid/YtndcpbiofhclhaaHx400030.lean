-- written by hp.py for this claim, out of the kit's printer and texts of my own
import Derived.Test.YtndcpbiofhclhaaHx0
import Derived.Test.YtndcpbiofhclhaaHx12
import Derived.Test.YtndcpbiofhclhaaHx13
import Derived.Test.YtndcpbiofhclhaaHx14
import Derived.Test.YtndcpbiofhclhaaHx15
import Derived.Test.YtndcpbiofhclhaaHx16
import Derived.Test.YtndcpbiofhclhaaHx17
import Derived.Test.YtndcpbiofhclhaaHx18
import Derived.Test.YtndcpbiofhclhaaHx19
import Derived.Test.YtndcpbiofhclhaaHx20
import Derived.Test.YtndcpbiofhclhaaHx21
import Derived.Test.YtndcpbiofhclhaaHx10023
namespace Go.Proofs.Ytndcpbiofhclhaa.H
open Go.RowKit Go.Proofs.YtndcpbiofhclhaaW.PrintWords Go.Proofs.YtndcpbiofhclhaaW.PrintLast Go.Proofs.YtndcpbiofhclhaaW.PrintMore
attribute [local go_sem] max2_int min2_int max_two min_two max_three min_three max_four min_four   -- for this text's walks alone
set_option linter.unusedVariables false
set_option linter.unusedSimpArgs false

attribute [local go_sem high] eqA23
def wharflaw13_SnacPuts.f (k : Nat) (a0_0 : Int) (a0_1 : Int) (a0_2 : Int) (a0_3 : Int) (a0_4 : ByteArray) (a1 : ByteArray) (a2 : Int) (a3 : Int) : Option (Bool) := if (wrap64 ((a0_4.size : Int) + (a1.size : Int))) > 20000 then ((wharflaw13_live.f k).bind fun t154 => (some t154)) else ((snac_Put.f a0_0 a0_1 a0_2 a0_3 a0_4).bind fun bt155 => ((wharfref13_Put.f k a0_0 a0_1 a0_2 a0_3 a0_4).bind fun bt157 => ((snac_Parse.f k a1).bind fun bt159 => ((wharfref13_Parse.f k a1).bind fun bt166 => (if bt155.1.toList = bt157.1.toList then ((wharflaw13_num.f bt155.2).bind fun t173 => (if t173 = bt157.2 then ((snac_Check.f a0_0 a0_1 a0_2 a0_3 a0_4).bind fun t174 => ((wharflaw13_num.f t174).bind fun t175 => ((wharfref13_Check.f k a0_0 a0_1 a0_2 a0_3 a0_4).bind fun t176 => (if t175 = t176 then (if (bt159.1 == bt166.1 && (bt159.2.1 == bt166.2.1 && (bt159.2.2.1 == bt166.2.2.1 && (bt159.2.2.2.1 == bt166.2.2.2.1 && (bt159.2.2.2.2.1.toList == bt166.2.2.2.2.1.toList))))) = true then ((wharflaw13_num.f bt159.2.2.2.2.2).bind fun t177 => (if t177 = bt166.2.2.2.2.2 then ((snac_Class.f a2 a3).bind fun t178 => ((wharfref13_Class.f a2 a3).bind fun t179 => (if t178 = t179 then ((wharflaw13_live.f k).bind fun t180 => (some t180)) else (some false)))) else (some false))) else (some false)) else (some false))))) else (some false))) else (some false))))))
def wharflaw13_SnacPuts.p0 (k : Nat) (a0_0 : Int) (a0_1 : Int) (a0_2 : Int) (a0_3 : Int) (a0_4 : ByteArray) (a1 : ByteArray) (a2 : Int) (a3 : Int) : Option (Bool) := (if (wrap64 ((a0_4.size : Int) + (a1.size : Int))) > 20000 then ((wharflaw13_live.f k).bind fun t154 => (some t154)) else ((snac_Put.f a0_0 a0_1 a0_2 a0_3 a0_4).bind fun bt155 => ((wharfref13_Put.f k a0_0 a0_1 a0_2 a0_3 a0_4).bind fun bt157 => ((snac_Parse.f k a1).bind fun bt159 => ((wharfref13_Parse.f k a1).bind fun bt166 => (if bt155.1.toList = bt157.1.toList then ((wharflaw13_num.f bt155.2).bind fun t173 => (if t173 = bt157.2 then ((snac_Check.f a0_0 a0_1 a0_2 a0_3 a0_4).bind fun t174 => ((wharflaw13_num.f t174).bind fun t175 => ((wharfref13_Check.f k a0_0 a0_1 a0_2 a0_3 a0_4).bind fun t176 => (if t175 = t176 then (if (bt159.1 == bt166.1 && (bt159.2.1 == bt166.2.1 && (bt159.2.2.1 == bt166.2.2.1 && (bt159.2.2.2.1 == bt166.2.2.2.1 && (bt159.2.2.2.2.1.toList == bt166.2.2.2.2.1.toList))))) = true then ((wharflaw13_num.f bt159.2.2.2.2.2).bind fun t177 => (if t177 = bt166.2.2.2.2.2 then ((snac_Class.f a2 a3).bind fun t178 => ((wharfref13_Class.f a2 a3).bind fun t179 => (if t178 = t179 then ((wharflaw13_live.f k).bind fun t180 => (some t180)) else (some false)))) else (some false))) else (some false)) else (none))))) else (none))) else (none)))))))
def wharflaw13_SnacPuts.p1 (k : Nat) (a0_0 : Int) (a0_1 : Int) (a0_2 : Int) (a0_3 : Int) (a0_4 : ByteArray) (a1 : ByteArray) (a2 : Int) (a3 : Int) : Option (Bool) := (if (wrap64 ((a0_4.size : Int) + (a1.size : Int))) > 20000 then (none) else ((snac_Put.f a0_0 a0_1 a0_2 a0_3 a0_4).bind fun bt155 => ((wharfref13_Put.f k a0_0 a0_1 a0_2 a0_3 a0_4).bind fun bt157 => ((snac_Parse.f k a1).bind fun bt159 => ((wharfref13_Parse.f k a1).bind fun bt166 => (if bt155.1.toList = bt157.1.toList then ((wharflaw13_num.f bt155.2).bind fun t173 => (if t173 = bt157.2 then ((snac_Check.f a0_0 a0_1 a0_2 a0_3 a0_4).bind fun t174 => ((wharflaw13_num.f t174).bind fun t175 => ((wharfref13_Check.f k a0_0 a0_1 a0_2 a0_3 a0_4).bind fun t176 => (if t175 = t176 then (if (bt159.1 == bt166.1 && (bt159.2.1 == bt166.2.1 && (bt159.2.2.1 == bt166.2.2.1 && (bt159.2.2.2.1 == bt166.2.2.2.1 && (bt159.2.2.2.2.1.toList == bt166.2.2.2.2.1.toList))))) = true then ((wharflaw13_num.f bt159.2.2.2.2.2).bind fun t177 => (if t177 = bt166.2.2.2.2.2 then ((snac_Class.f a2 a3).bind fun t178 => ((wharfref13_Class.f a2 a3).bind fun t179 => (if t178 = t179 then (none) else (none)))) else (none))) else (none)) else (some false))))) else (some false))) else (some false)))))))
theorem wharflaw13_SnacPuts.mono : ∀ a0 a1 a2 a3 a4 a5 a6 a7 k, LeO (wharflaw13_SnacPuts.f k a0 a1 a2 a3 a4 a5 a6 a7) (wharflaw13_SnacPuts.f (k + 1) a0 a1 a2 a3 a4 a5 a6 a7) := by
  intro a0 a1 a2 a3 a4 a5 a6 a7 k
  unfold wharflaw13_SnacPuts.f
  repeat' first
      | (with_reducible exact snac_Parse.mono _ _)
      | (with_reducible exact wharflaw13_live.mono _)
      | (with_reducible exact wharfref13_Check.mono _ _ _ _ _ _)
      | (with_reducible exact wharfref13_Parse.mono _ _)
      | (with_reducible exact wharfref13_Put.mono _ _ _ _ _ _)
      | (with_reducible exact LeO.refl _)
      | (with_reducible exact LeO.none _)
      | (with_reducible refine LeO.ite ?_ ?_)
      | (with_reducible refine LeO.bind ?_ (fun _ => ?_))
      | exact snac_Parse.mono _ _
      | exact wharflaw13_live.mono _
      | exact wharfref13_Check.mono _ _ _ _ _ _
      | exact wharfref13_Parse.mono _ _
      | exact wharfref13_Put.mono _ _ _ _ _ _
      | exact LeO.none _
      | refine LeO.ite ?_ ?_
      | refine LeO.bind ?_ (fun _ => ?_)
def wharflaw13_SnacPuts.T7 : Bool × List (List Nat × List Nat) := (true, [([], []), ([], []), ([0, 1], [0, 1]), ([2], [2]), ([3], [3]), ([4, 3, 3], [3, 4]), ([3], [3]), ([5, 6, 3], [3, 5, 6]), ([3, 7], [3, 7]), ([8, 5], [8]), ([9], [9]), ([10, 9, 9], [9, 10]), ([11, 11, 9], [9, 11]), ([9], [9]), ([13, 12, 9], [9, 13]), ([12, 14, 9], [9, 12, 14]), ([9, 15], [9, 15]), ([16, 14], [16]), ([17], [17]), ([17], [17]), ([18, 19, 17], [17, 18, 19]), ([17, 20], [17, 20]), ([21, 17], [21]), ([22], [22]), ([23, 22, 22], [22, 23]), ([22], [22]), ([24, 25, 22], [22, 24, 25]), ([22, 26], [22, 26]), ([27, 24], [27]), ([28], [28]), ([28], [28]), ([29, 30, 28, 28], [28, 29, 30]), ([28], [28]), ([28], [28]), ([32, 33, 31, 28], [28, 32, 33]), ([31, 34, 28], [28, 31, 34]), ([28, 35], [28, 35]), ([36, 34], [36]), ([37, 37], [37]), ([37, 38], [37, 38]), ([39, 38, 0, 1, 2, 3, 4, 5, 6, 7, 8, 9, 10, 11, 12, 13, 14, 15, 16, 17, 18, 19, 20, 21, 22, 23, 24, 25, 26, 27, 28, 29, 30, 31, 32, 33, 34, 35, 36, 37, 38, 39], [39])])
def wharflaw13_SnacPuts.B7 : List Nat := [0, 0, 3, 7, 15, 31, 15, 127, 255, 511, 1023, 2047, 4095, 1023, 16383, 32767, 65535, 131071, 262143, 262143, 1048575, 2097151, 4194303, 8388607, 16777215, 8388607, 67108863, 134217727, 268435455, 536870911, 536870911, 2147483647, 536870911, 536870911, 17179869183, 34359738367, 68719476735, 137438953471, 274877906943, 549755813887, 1099511627775]
theorem wharflaw13_SnacPuts.tab7 : rtab .any (opsOf Try.f3 7) = wharflaw13_SnacPuts.T7 := by kernel_rfl
theorem wharflaw13_SnacPuts.bits7 : waitsOk wharflaw13_SnacPuts.T7.2 wharflaw13_SnacPuts.B7 = true := by kernel_rfl
theorem wharflaw13_SnacPuts.alt_bind {α β : Type} {x : Option α} {b b1 b2 : α → Option β} (h : ∀ v r, b v = some r → b1 v = some r ∨ b2 v = some r) : ∀ r, x.bind b = some r → x.bind b1 = some r ∨ x.bind b2 = some r := by
  intro r e
  cases x with
  | none => cases e
  | some v => exact h v r e
theorem wharflaw13_SnacPuts.alt_ite {β : Type} {c : Prop} [Decidable c] {a a1 a2 b b1 b2 : Option β} (h : ∀ r, a = some r → a1 = some r ∨ a2 = some r) (h' : ∀ r, b = some r → b1 = some r ∨ b2 = some r) : ∀ r, (if c then a else b) = some r → (if c then a1 else b1) = some r ∨ (if c then a2 else b2) = some r := by
  intro r e
  by_cases hc : c
  · rw [if_pos hc] at e ⊢
    rw [if_pos hc]
    exact h r e
  · rw [if_neg hc] at e ⊢
    rw [if_neg hc]
    exact h' r e
theorem wharflaw13_SnacPuts.alt_l {β : Type} {a : Option β} : ∀ r, a = some r → a = some r ∨ (none : Option β) = some r := fun _ e => Or.inl e
theorem wharflaw13_SnacPuts.alt_r {β : Type} {a : Option β} : ∀ r, a = some r → (none : Option β) = some r ∨ a = some r := fun _ e => Or.inr e
theorem wharflaw13_SnacPuts.alt0 : ∀ k a0_0 a0_1 a0_2 a0_3 a0_4 a1 a2 a3 r, wharflaw13_SnacPuts.f k a0_0 a0_1 a0_2 a0_3 a0_4 a1 a2 a3 = some r → wharflaw13_SnacPuts.p0 k a0_0 a0_1 a0_2 a0_3 a0_4 a1 a2 a3 = some r ∨ wharflaw13_SnacPuts.p1 k a0_0 a0_1 a0_2 a0_3 a0_4 a1 a2 a3 = some r := by
  intro k a0_0 a0_1 a0_2 a0_3 a0_4 a1 a2 a3
  unfold wharflaw13_SnacPuts.f wharflaw13_SnacPuts.p0 wharflaw13_SnacPuts.p1
  repeat' first
    | (with_reducible exact wharflaw13_SnacPuts.alt_l)
    | (with_reducible exact wharflaw13_SnacPuts.alt_r)
    | (with_reducible refine wharflaw13_SnacPuts.alt_ite ?_ ?_)
    | (with_reducible refine wharflaw13_SnacPuts.alt_bind (fun _ => ?_))
    | (intro _ e; exact (Option.noConfusion e))
end Go.Proofs.Ytndcpbiofhclhaa.H
