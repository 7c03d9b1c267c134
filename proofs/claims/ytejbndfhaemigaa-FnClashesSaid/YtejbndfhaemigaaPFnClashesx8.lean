-- written by wip/tools/myprint.py out of the program's own print
import Derived.Test.YtejbndfhaemigaaPFnClashesx0
import Derived.Test.YtejbndfhaemigaaPFnClashesx1
import Derived.Test.YtejbndfhaemigaaPFnClashesx2
import Derived.Test.YtejbndfhaemigaaPFnClashesx4
import Derived.Test.YtejbndfhaemigaaPFnClashesx6
import Derived.Test.YtejbndfhaemigaaPFnClashesx7
namespace Go.Proofs.Ytejbndfhaemigaa.PFnClashes
open Go.Proofs.Ytejbndfhaemigaa.Own (rS cS bS rB rN rT kS kC kc10 kf10)
open Go.RowKit Go.Proofs.YtejbndfhaemigaaW.PrintWords Go.Proofs.YtejbndfhaemigaaW.PrintLast Go.Proofs.YtejbndfhaemigaaW.PrintMore
attribute [local go_sem] max2_int min2_int max_two min_two max_three min_three max_four min_four   -- for this text's walks alone
set_option linter.unusedVariables false
set_option linter.unusedSimpArgs false

/-! ### laws_FnClashes: function 3 -/
def cP (e : S33) : Int × Int := (e.f0, e.f1)
theorem cP_inj {a b : List S33} (h : a.map cP = b.map cP) : a = b := by
 induction a generalizing b with
 | nil => cases b with
  | nil => rfl
  | cons y t => cases h
 | cons x s ih => cases b with
  | nil => cases h
  | cons y t =>
   obtain ⟨x0, x1⟩ := x
   obtain ⟨y0, y1⟩ := y
   injection h with h1 h2
   injection h1 with h3 h4
   subst h3 h4
   rw [ih h2]
def clashTail (k : Nat) (x0 x1 x2 x3 x4 x5 x6 x7 : List Int) (x8 x9 : Bool) (y0 y1 y2 y3 y4 y5 y6 y7 : List Int) (y8 y9 : Bool) (c : Int) : Option Bool :=
 (impl_Clashes.f k x0 x1 x2 x3 x4 x5 x6 x7 x8 x9 y0 y1 y2 y3 y4 y5 y6 y7 y8 y9).bind fun a => (impl_Clashes.f k y0 y1 y2 y3 y4 y5 y6 y7 y8 y9 x0 x1 x2 x3 x4 x5 x6 x7 x8 x9).bind fun b => (spec_Clashes.f k x0 x1 x2 x3 x4 x5 x6 x7 x8 x9 y0 y1 y2 y3 y4 y5 y6 y7 y8 y9).bind fun s => (impl_Apart.f k x0 x1 x2 x3 x4 x5 x6 x7 x8 x9 y0 y1 y2 y3 y4 y5 y6 y7 y8 y9).bind fun p =>
 if a.map cP = b.map cP ∧ a.length ≤ 1000000000 ∧ a.length = s.length ∧ p = ((a.length : Int) == 0) then
 (impl_Strictly.f k x0 x1 x2 x3 x4 x5 x6 x7 x8 x9 y0 y1 y2 y3 y4 y5 y6 y7 y8 y9 c).bind fun z => (impl_Strictly.f k y0 y1 y2 y3 y4 y5 y6 y7 y8 y9 x0 x1 x2 x3 x4 x5 x6 x7 x8 x9 c).bind fun u =>
 if c < 0 ∨ 12 < c then (if z.length = 0 ∧ u.length = 0 then some true else none) else
 if z.map cP = u.map cP ∧ z.length ≤ 1000000000 ∧ a.length ≤ z.length ∧ (z.take a.length).map cP = a.map cP ∧ (∀ e ∈ z.drop a.length, e.f0 = 4) then impl_Apart.f k x0 [] x2 x3 [] [] x6 [] false false y0 [] [] y3 [] [] y6 [] false false else none else none
def laws_FnClashes.f (k : Nat) (l0 : List Int) : Option Bool :=
 if (l0.length : Int) > 1048576 then some true else (spec_DrawStrictly.f k l0).bind fun (r1, r2, r3, r4, r5, r6, r7, r8, r9, r10, r11, r12, r13, r14, r15, r16, r17, r18, r19, r20, r21) => clashTail k r1 r2 r3 r4 r5 r6 r7 r8 r9 r10 r11 r12 r13 r14 r15 r16 r17 r18 r19 r20 r21
theorem clashTail.mono : ∀ x0 x1 x2 x3 x4 x5 x6 x7 x8 x9 y0 y1 y2 y3 y4 y5 y6 y7 y8 y9 c k, LeO (clashTail k x0 x1 x2 x3 x4 x5 x6 x7 x8 x9 y0 y1 y2 y3 y4 y5 y6 y7 y8 y9 c) (clashTail (k + 1) x0 x1 x2 x3 x4 x5 x6 x7 x8 x9 y0 y1 y2 y3 y4 y5 y6 y7 y8 y9 c) := by
 intro x0 x1 x2 x3 x4 x5 x6 x7 x8 x9 y0 y1 y2 y3 y4 y5 y6 y7 y8 y9 c k
 unfold clashTail
 repeat' first
  | exact LeO.refl _
  | exact impl_Clashes.mono _ _ _ _ _ _ _ _ _ _ _ _ _ _ _ _ _ _ _ _ _
  | exact spec_Clashes.mono _ _ _ _ _ _ _ _ _ _ _ _ _ _ _ _ _ _ _ _ _
  | exact impl_Apart.mono _ _ _ _ _ _ _ _ _ _ _ _ _ _ _ _ _ _ _ _ _
  | exact impl_Strictly.mono _ _ _ _ _ _ _ _ _ _ _ _ _ _ _ _ _ _ _ _ _ _
  | refine LeO.bind ?_ (fun _ => ?_)
  | refine LeO.ite ?_ ?_
theorem clashesV (k : Nat) {w : World} {ok ok' : Nat → Prop} {v0 v1 v2 v3 v4 v5 v6 v7 u0 u1 u2 u3 u4 u5 u6 u7 : Value} (x0 x1 x2 x3 x4 x5 x6 x7 : List Int) (x8 x9 : Bool) (y0 y1 y2 y3 y4 y5 y6 y7 : List Int) (y8 y9 : Bool) (r : List S33) (hx : E8V w ok v0 v1 v2 v3 v4 v5 v6 v7 x0 x1 x2 x3 x4 x5 x6 x7) (hy : E8V w ok' u0 u1 u2 u3 u4 u5 u6 u7 y0 y1 y2 y3 y4 y5 y6 y7) (h : impl_Clashes.f k x0 x1 x2 x3 x4 x5 x6 x7 x8 x9 y0 y1 y2 y3 y4 y5 y6 y7 y8 y9 = some r) :
  Calls Try.prog 6 #[.agg #[v0, v1, v2, v3, v4, v5, v6, v7, .bool x8, .bool x9], .agg #[u0, u1, u2, u3, u4, u5, u6, u7, .bool y8, .bool y9]] w fun e w' => ∃ A c', e = .returned (.slice A r.length c') ∧ Kd.V k33 33 w' 0 (fun _ => True) (.slice A r.length c') r ∧ Below w.heap.size w w' := by
 obtain ⟨⟨P0, P0c, rfl⟩, ⟨P1, P1c, rfl⟩, ⟨P2, P2c, rfl⟩, ⟨P3, P3c, rfl⟩, ⟨P4, P4c, rfl⟩, ⟨P5, P5c, rfl⟩, ⟨P6, P6c, rfl⟩, ⟨P7, P7c, rfl⟩⟩ := hx.slices
 obtain ⟨hx0, hx1, hx2, hx3, hx4, hx5, hx6, hx7⟩ := hx
 obtain ⟨⟨Q0, Q0c, rfl⟩, ⟨Q1, Q1c, rfl⟩, ⟨Q2, Q2c, rfl⟩, ⟨Q3, Q3c, rfl⟩, ⟨Q4, Q4c, rfl⟩, ⟨Q5, Q5c, rfl⟩, ⟨Q6, Q6c, rfl⟩, ⟨Q7, Q7c, rfl⟩⟩ := hy.slices
 obtain ⟨hy0, hy1, hy2, hy3, hy4, hy5, hy6, hy7⟩ := hy
 refine (impl_Clashes.calls k _ _ x0 _ _ x1 _ _ x2 _ _ x3 _ _ x4 _ _ x5 _ _ x6 _ _ x7 x8 x9 _ _ y0 _ _ y1 _ _ y2 _ _ y3 _ _ y4 _ _ y5 _ _ y6 _ _ y7 y8 y9 r w (Kd.V_reads' hx0).2.2 (Kd.V_reads' hx0).2.1 (Kd.V_reads' hx1).2.2 (Kd.V_reads' hx1).2.1 (Kd.V_reads' hx2).2.2 (Kd.V_reads' hx2).2.1 (Kd.V_reads' hx3).2.2 (Kd.V_reads' hx3).2.1 (Kd.V_reads' hx4).2.2 (Kd.V_reads' hx4).2.1 (Kd.V_reads' hx5).2.2 (Kd.V_reads' hx5).2.1 (Kd.V_reads' hx6).2.2 (Kd.V_reads' hx6).2.1 (Kd.V_reads' hx7).2.2 (Kd.V_reads' hx7).2.1 (Kd.V_reads' hy0).2.2 (Kd.V_reads' hy0).2.1 (Kd.V_reads' hy1).2.2 (Kd.V_reads' hy1).2.1 (Kd.V_reads' hy2).2.2 (Kd.V_reads' hy2).2.1 (Kd.V_reads' hy3).2.2 (Kd.V_reads' hy3).2.1 (Kd.V_reads' hy4).2.2 (Kd.V_reads' hy4).2.1 (Kd.V_reads' hy5).2.2 (Kd.V_reads' hy5).2.1 (Kd.V_reads' hy6).2.2 (Kd.V_reads' hy6).2.1 (Kd.V_reads' hy7).2.2 (Kd.V_reads' hy7).2.1 h).mono ?_
 rintro e w' ⟨v, rfl, hr, hb⟩
 obtain ⟨A, c', rfl⟩ := Kd.R_slice hr
 exact ⟨A, c', rfl, Kd.V_mono (Kd.R_V hr) (fun _ _ => trivial), hb⟩
theorem clashesSV (k : Nat) {w : World} {ok ok' : Nat → Prop} {v0 v1 v2 v3 v4 v5 v6 v7 u0 u1 u2 u3 u4 u5 u6 u7 : Value} (x0 x1 x2 x3 x4 x5 x6 x7 : List Int) (x8 x9 : Bool) (y0 y1 y2 y3 y4 y5 y6 y7 : List Int) (y8 y9 : Bool) (r : List S33) (hx : E8V w ok v0 v1 v2 v3 v4 v5 v6 v7 x0 x1 x2 x3 x4 x5 x6 x7) (hy : E8V w ok' u0 u1 u2 u3 u4 u5 u6 u7 y0 y1 y2 y3 y4 y5 y6 y7) (h : spec_Clashes.f k x0 x1 x2 x3 x4 x5 x6 x7 x8 x9 y0 y1 y2 y3 y4 y5 y6 y7 y8 y9 = some r) :
  Calls Try.prog 7 #[.agg #[v0, v1, v2, v3, v4, v5, v6, v7, .bool x8, .bool x9], .agg #[u0, u1, u2, u3, u4, u5, u6, u7, .bool y8, .bool y9]] w fun e w' => ∃ A c', e = .returned (.slice A r.length c') ∧ Kd.V k33 33 w' 0 (fun _ => True) (.slice A r.length c') r ∧ Below w.heap.size w w' := by
 obtain ⟨⟨P0, P0c, rfl⟩, ⟨P1, P1c, rfl⟩, ⟨P2, P2c, rfl⟩, ⟨P3, P3c, rfl⟩, ⟨P4, P4c, rfl⟩, ⟨P5, P5c, rfl⟩, ⟨P6, P6c, rfl⟩, ⟨P7, P7c, rfl⟩⟩ := hx.slices
 obtain ⟨hx0, hx1, hx2, hx3, hx4, hx5, hx6, hx7⟩ := hx
 obtain ⟨⟨Q0, Q0c, rfl⟩, ⟨Q1, Q1c, rfl⟩, ⟨Q2, Q2c, rfl⟩, ⟨Q3, Q3c, rfl⟩, ⟨Q4, Q4c, rfl⟩, ⟨Q5, Q5c, rfl⟩, ⟨Q6, Q6c, rfl⟩, ⟨Q7, Q7c, rfl⟩⟩ := hy.slices
 obtain ⟨hy0, hy1, hy2, hy3, hy4, hy5, hy6, hy7⟩ := hy
 refine (spec_Clashes.calls k _ _ x0 _ _ x1 _ _ x2 _ _ x3 _ _ x4 _ _ x5 _ _ x6 _ _ x7 x8 x9 _ _ y0 _ _ y1 _ _ y2 _ _ y3 _ _ y4 _ _ y5 _ _ y6 _ _ y7 y8 y9 r w (Kd.V_reads' hx0).2.2 (Kd.V_reads' hx0).2.1 (Kd.V_reads' hx1).2.2 (Kd.V_reads' hx1).2.1 (Kd.V_reads' hx2).2.2 (Kd.V_reads' hx2).2.1 (Kd.V_reads' hx3).2.2 (Kd.V_reads' hx3).2.1 (Kd.V_reads' hx4).2.2 (Kd.V_reads' hx4).2.1 (Kd.V_reads' hx5).2.2 (Kd.V_reads' hx5).2.1 (Kd.V_reads' hx6).2.2 (Kd.V_reads' hx6).2.1 (Kd.V_reads' hx7).2.2 (Kd.V_reads' hx7).2.1 (Kd.V_reads' hy0).2.2 (Kd.V_reads' hy0).2.1 (Kd.V_reads' hy1).2.2 (Kd.V_reads' hy1).2.1 (Kd.V_reads' hy2).2.2 (Kd.V_reads' hy2).2.1 (Kd.V_reads' hy3).2.2 (Kd.V_reads' hy3).2.1 (Kd.V_reads' hy4).2.2 (Kd.V_reads' hy4).2.1 (Kd.V_reads' hy5).2.2 (Kd.V_reads' hy5).2.1 (Kd.V_reads' hy6).2.2 (Kd.V_reads' hy6).2.1 (Kd.V_reads' hy7).2.2 (Kd.V_reads' hy7).2.1 h).mono ?_
 rintro e w' ⟨v, rfl, hr, hb⟩
 obtain ⟨A, c', rfl⟩ := Kd.R_slice hr
 exact ⟨A, c', rfl, Kd.V_mono (Kd.R_V hr) (fun _ _ => trivial), hb⟩
theorem strictlyV (k : Nat) {w : World} {ok ok' : Nat → Prop} {v0 v1 v2 v3 v4 v5 v6 v7 u0 u1 u2 u3 u4 u5 u6 u7 : Value} (x0 x1 x2 x3 x4 x5 x6 x7 : List Int) (x8 x9 : Bool) (y0 y1 y2 y3 y4 y5 y6 y7 : List Int) (y8 y9 : Bool) (c : Int) (r : List S33) (hx : E8V w ok v0 v1 v2 v3 v4 v5 v6 v7 x0 x1 x2 x3 x4 x5 x6 x7) (hy : E8V w ok' u0 u1 u2 u3 u4 u5 u6 u7 y0 y1 y2 y3 y4 y5 y6 y7) (h : impl_Strictly.f k x0 x1 x2 x3 x4 x5 x6 x7 x8 x9 y0 y1 y2 y3 y4 y5 y6 y7 y8 y9 c = some r) :
  Calls Try.prog 9 #[.agg #[v0, v1, v2, v3, v4, v5, v6, v7, .bool x8, .bool x9], .agg #[u0, u1, u2, u3, u4, u5, u6, u7, .bool y8, .bool y9], .int .i64 c] w fun e w' => ∃ A c', e = .returned (.slice A r.length c') ∧ Kd.V k33 33 w' 0 (fun _ => True) (.slice A r.length c') r ∧ Below w.heap.size w w' := by
 obtain ⟨⟨P0, P0c, rfl⟩, ⟨P1, P1c, rfl⟩, ⟨P2, P2c, rfl⟩, ⟨P3, P3c, rfl⟩, ⟨P4, P4c, rfl⟩, ⟨P5, P5c, rfl⟩, ⟨P6, P6c, rfl⟩, ⟨P7, P7c, rfl⟩⟩ := hx.slices
 obtain ⟨hx0, hx1, hx2, hx3, hx4, hx5, hx6, hx7⟩ := hx
 obtain ⟨⟨Q0, Q0c, rfl⟩, ⟨Q1, Q1c, rfl⟩, ⟨Q2, Q2c, rfl⟩, ⟨Q3, Q3c, rfl⟩, ⟨Q4, Q4c, rfl⟩, ⟨Q5, Q5c, rfl⟩, ⟨Q6, Q6c, rfl⟩, ⟨Q7, Q7c, rfl⟩⟩ := hy.slices
 obtain ⟨hy0, hy1, hy2, hy3, hy4, hy5, hy6, hy7⟩ := hy
 refine (impl_Strictly.calls k _ _ _ x0 _ _ _ x1 _ _ _ x2 _ _ x3 _ _ x4 _ _ x5 _ _ x6 _ _ x7 x8 x9 _ _ _ y0 _ _ _ y1 _ _ _ y2 _ _ y3 _ _ y4 _ _ y5 _ _ y6 _ _ y7 y8 y9 c r w hx0 hx1 hx2 (Kd.V_reads' hx3).2.2 (Kd.V_reads' hx3).2.1 (Kd.V_reads' hx4).2.2 (Kd.V_reads' hx4).2.1 (Kd.V_reads' hx5).2.2 (Kd.V_reads' hx5).2.1 (Kd.V_reads' hx6).2.2 (Kd.V_reads' hx6).2.1 (Kd.V_reads' hx7).2.2 (Kd.V_reads' hx7).2.1 hy0 hy1 hy2 (Kd.V_reads' hy3).2.2 (Kd.V_reads' hy3).2.1 (Kd.V_reads' hy4).2.2 (Kd.V_reads' hy4).2.1 (Kd.V_reads' hy5).2.2 (Kd.V_reads' hy5).2.1 (Kd.V_reads' hy6).2.2 (Kd.V_reads' hy6).2.1 (Kd.V_reads' hy7).2.2 (Kd.V_reads' hy7).2.1 h).mono ?_
 rintro e w' ⟨v, rfl, hr, hb⟩
 obtain ⟨A, c', rfl⟩ := Kd.R_slice hr
 exact ⟨A, c', rfl, Kd.V_mono (Kd.R_V hr) (fun _ _ => trivial), hb⟩
theorem apartV (k : Nat) {w : World} {ok ok' : Nat → Prop} {v0 v1 v2 v3 v4 v5 v6 v7 u0 u1 u2 u3 u4 u5 u6 u7 : Value} (x0 x1 x2 x3 x4 x5 x6 x7 : List Int) (x8 x9 : Bool) (y0 y1 y2 y3 y4 y5 y6 y7 : List Int) (y8 y9 : Bool) (r : Bool) (hx : E8V w ok v0 v1 v2 v3 v4 v5 v6 v7 x0 x1 x2 x3 x4 x5 x6 x7) (hy : E8V w ok' u0 u1 u2 u3 u4 u5 u6 u7 y0 y1 y2 y3 y4 y5 y6 y7) (h : impl_Apart.f k x0 x1 x2 x3 x4 x5 x6 x7 x8 x9 y0 y1 y2 y3 y4 y5 y6 y7 y8 y9 = some r) :
  Calls Try.prog 8 #[.agg #[v0, v1, v2, v3, v4, v5, v6, v7, .bool x8, .bool x9], .agg #[u0, u1, u2, u3, u4, u5, u6, u7, .bool y8, .bool y9]] w fun e w' => e = .returned (.bool r) ∧ Below w.heap.size w w' := by
 obtain ⟨⟨P0, P0c, rfl⟩, ⟨P1, P1c, rfl⟩, ⟨P2, P2c, rfl⟩, ⟨P3, P3c, rfl⟩, ⟨P4, P4c, rfl⟩, ⟨P5, P5c, rfl⟩, ⟨P6, P6c, rfl⟩, ⟨P7, P7c, rfl⟩⟩ := hx.slices
 obtain ⟨hx0, hx1, hx2, hx3, hx4, hx5, hx6, hx7⟩ := hx
 obtain ⟨⟨Q0, Q0c, rfl⟩, ⟨Q1, Q1c, rfl⟩, ⟨Q2, Q2c, rfl⟩, ⟨Q3, Q3c, rfl⟩, ⟨Q4, Q4c, rfl⟩, ⟨Q5, Q5c, rfl⟩, ⟨Q6, Q6c, rfl⟩, ⟨Q7, Q7c, rfl⟩⟩ := hy.slices
 obtain ⟨hy0, hy1, hy2, hy3, hy4, hy5, hy6, hy7⟩ := hy
 refine (impl_Apart.calls k _ _ x0 _ _ x1 _ _ x2 _ _ x3 _ _ x4 _ _ x5 _ _ x6 _ _ x7 x8 x9 _ _ y0 _ _ y1 _ _ y2 _ _ y3 _ _ y4 _ _ y5 _ _ y6 _ _ y7 y8 y9 r w (Kd.V_reads' hx0).2.2 (Kd.V_reads' hx0).2.1 (Kd.V_reads' hx1).2.2 (Kd.V_reads' hx1).2.1 (Kd.V_reads' hx2).2.2 (Kd.V_reads' hx2).2.1 (Kd.V_reads' hx3).2.2 (Kd.V_reads' hx3).2.1 (Kd.V_reads' hx4).2.2 (Kd.V_reads' hx4).2.1 (Kd.V_reads' hx5).2.2 (Kd.V_reads' hx5).2.1 (Kd.V_reads' hx6).2.2 (Kd.V_reads' hx6).2.1 (Kd.V_reads' hx7).2.2 (Kd.V_reads' hx7).2.1 (Kd.V_reads' hy0).2.2 (Kd.V_reads' hy0).2.1 (Kd.V_reads' hy1).2.2 (Kd.V_reads' hy1).2.1 (Kd.V_reads' hy2).2.2 (Kd.V_reads' hy2).2.1 (Kd.V_reads' hy3).2.2 (Kd.V_reads' hy3).2.1 (Kd.V_reads' hy4).2.2 (Kd.V_reads' hy4).2.1 (Kd.V_reads' hy5).2.2 (Kd.V_reads' hy5).2.1 (Kd.V_reads' hy6).2.2 (Kd.V_reads' hy6).2.1 (Kd.V_reads' hy7).2.2 (Kd.V_reads' hy7).2.1 h).mono ?_
 exact fun _ _ h => h
theorem iteN {α : Type} {p : Prop} [Decidable p] {o : Option α} {r : α} (h : (if p then o else none) = some r) : p ∧ o = some r := by
 by_cases hp : p
 ·rw [if_pos hp] at h; exact ⟨hp, h⟩
 ·rw [if_neg hp] at h; cases h
theorem rW1 (i : Nat) (h : i ≤ 9223372036854775806) : wrap64 ((i : Int) + 1) = ((i + 1 : Nat) : Int) := by
 unfold wrap64
 omega
theorem eqA33 (d : Nat) (w : World) (x0 y0 : Int) (x1 y1 : Int) :
  (Op.equalIn (d + 2) 33 (.agg #[.int .i64 x0, .int .i64 x1]) (.agg #[.int .i64 y0, .int .i64 y1])).run Try.prog w = .ok (x0 == y0 && (x1 == y1)) w := by
 refine eqA_of Try.underlying33 (by kernel_rfl) ?_
 refine eqf_cons (by rfl) (by go_simp; rfl) (by go_simp; rfl) (by go_simp) ?_
 exact eqf_last (by rfl) (by go_simp; rfl) (by go_simp; rfl) (by go_simp)
attribute [local go_sem high] eqA33
set_option maxHeartbeats 8000000 in
set_option maxRecDepth 100000 in
theorem laws_FnClashes.calls (k : Nat) (A0 : Option Addr) (c0 : Nat) (l0 : List Int) (r : Bool) (w : World) (hr0 : Kd.C (Kd.int .u8) w A0 l0.length l0) (hc0 : l0.length ≤ c0) (h : laws_FnClashes.f k l0 = some r) :
  Calls Try.prog 3 #[.slice A0 l0.length c0] w fun e w' => e = .returned (.bool r) ∧ Below w.heap.size w w' := by
 have HR0 := Aside0.mk hr0
 have HC0 := Aside0.mk hc0
 clear hr0 hc0
 have hu26 := Try.underlying26
 unfold laws_FnClashes.f at h
 by_cases hb0 : (l0.length : Int) > 1048576
 ·rw [if_pos hb0] at h
  injection h with h
  subst h
  have cb0 : decide (1048576 < (l0.length : Int)) = true := decide_eq_true hb0
  clear hb0
  go_enter Try.func3, Try.ntmps3
  go_wp2
  go_ret
  exact ⟨rfl, Below.refl _ _⟩
 rw [if_neg hb0] at h
 have HL := Aside0.mk (show laws_big.f l0 = some false by unfold laws_big.f; rw [decide_eq_false hb0])
 clear hb0
 obtain ⟨⟨x0, x1, x2, x3, x4, x5, x6, x7, x8, x9, y0, y1, y2, y3, y4, y5, y6, y7, y8, y9, c⟩, hd, h1⟩ := Option.bind_eq_some_iff.mp h
 clear h
 dsimp only at h1
 have HD := Aside0.mk hd
 clear hd
 unfold clashTail at h1
 obtain ⟨la, ha, h2⟩ := Option.bind_eq_some_iff.mp h1
 clear h1
 obtain ⟨lb, hb_, h3⟩ := Option.bind_eq_some_iff.mp h2
 clear h2
 obtain ⟨ls, hs_, h4⟩ := Option.bind_eq_some_iff.mp h3
 clear h3
 obtain ⟨p, hp_, h5⟩ := Option.bind_eq_some_iff.mp h4
 clear h4
 obtain ⟨⟨hab, hla, has, hpp⟩, h6⟩ := iteN h5
 clear h5
 obtain ⟨lz, hz_, h7⟩ := Option.bind_eq_some_iff.mp h6
 clear h6
 obtain ⟨lu, hu_, h8⟩ := Option.bind_eq_some_iff.mp h7
 clear h7
 obtain rfl := cP_inj hab
 clear hab
 subst hpp
 have HAF := Aside0.mk ha
 have HBF := Aside0.mk hb_
 have HSF := Aside0.mk hs_
 have HPF := Aside0.mk hp_
 have HZF := Aside0.mk hz_
 have HUF := Aside0.mk hu_
 clear ha hb_ hs_ hp_ hz_ hu_
 have H8 := Aside0.mk h8
 clear h8
 have HAS := Aside0.mk has
 have caa : ((la.length : Int) == (la.length : Int)) = true := beq_iff_eq.2 rfl
 clear has
 go_enter Try.func3, Try.ntmps3
 go_upto_region 4 with (first
  | (go_at_call 4; (with_reducible refine (laws_big.calls _ _ l0 false _ HR0.out HC0.out HL.out).mono ?_); rintro e w' ⟨rfl, hdr⟩; have HB0 := Aside0.mk hdr.below; clear hdr)
  | (go_at_call 5; (with_reducible refine (spec_DrawStrictly.calls k _ _ l0 x0 x1 x2 x3 x4 x5 x6 x7 y0 y1 y2 y3 y4 y5 y6 y7 x8 x9 y8 y9 c _ (Kd.C_below HR0.out HB0.out) HC0.out HD.out).mono ?_); rintro e w1 ⟨v0, v1, v2, v3, v4, v5, v6, v7, u0, u1, u2, u3, u4, u5, u6, u7, rfl, hx, hy, hb⟩; have HX1 := Aside0.mk hx; have HY1 := Aside0.mk hy; have HB1 := Aside0.mk (below_step HB0.out hb); obtain ⟨⟨P0, P0c, rfl⟩, ⟨P1, P1c, rfl⟩, ⟨P2, P2c, rfl⟩, ⟨P3, P3c, rfl⟩, ⟨P4, P4c, rfl⟩, ⟨P5, P5c, rfl⟩, ⟨P6, P6c, rfl⟩, ⟨P7, P7c, rfl⟩⟩ := hx.slices; obtain ⟨⟨Q0, Q0c, rfl⟩, ⟨Q1, Q1c, rfl⟩, ⟨Q2, Q2c, rfl⟩, ⟨Q3, Q3c, rfl⟩, ⟨Q4, Q4c, rfl⟩, ⟨Q5, Q5c, rfl⟩, ⟨Q6, Q6c, rfl⟩, ⟨Q7, Q7c, rfl⟩⟩ := hy.slices; clear hx hy hb))
 obtain ⟨w2, hw2⟩ : ∃ w2, w2 = (w1.alloc (.cells #[.slice P0 x0.length P0c, .slice P1 x1.length P1c, .slice P2 x2.length P2c, .slice P3 x3.length P3c, .slice P4 x4.length P4c, .slice P5 x5.length P5c, .slice P6 x6.length P6c, .slice P7 x7.length P7c, .bool x8, .bool x9] 26 (0, 0))).alloc (.cells #[.slice Q0 y0.length Q0c, .slice Q1 y1.length Q1c, .slice Q2 y2.length Q2c, .slice Q3 y3.length Q3c, .slice Q4 y4.length Q4c, .slice Q5 y5.length Q5c, .slice Q6 y6.length Q6c, .slice Q7 y7.length Q7c, .bool y8, .bool y9] 26 (0, 0)) := ⟨_, rfl⟩
 have hb2 : Below w1.heap.size w1 w2 := by rw [hw2]; exact below_alloc (below_alloc (Below.refl _ _) _) _
 have KA2 := Aside0.mk (show w2.heap[w1.heap.size]? = some (.cells #[.slice P0 x0.length P0c, .slice P1 x1.length P1c, .slice P2 x2.length P2c, .slice P3 x3.length P3c, .slice P4 x4.length P4c, .slice P5 x5.length P5c, .slice P6 x6.length P6c, .slice P7 x7.length P7c, .bool x8, .bool x9] 26 (0, 0)) by rw [hw2]; exact blk_alloc (blk_new _ _) _)
 have KB2 := Aside0.mk (show w2.heap[w1.heap.size + 1]? = some (.cells #[.slice Q0 y0.length Q0c, .slice Q1 y1.length Q1c, .slice Q2 y2.length Q2c, .slice Q3 y3.length Q3c, .slice Q4 y4.length Q4c, .slice Q5 y5.length Q5c, .slice Q6 y6.length Q6c, .slice Q7 y7.length Q7c, .bool y8, .bool y9] 26 (0, 0)) by rw [hw2]; have h := blk_new (w1.alloc (.cells #[.slice P0 x0.length P0c, .slice P1 x1.length P1c, .slice P2 x2.length P2c, .slice P3 x3.length P3c, .slice P4 x4.length P4c, .slice P5 x5.length P5c, .slice P6 x6.length P6c, .slice P7 x7.length P7c, .bool x8, .bool x9] 26 (0, 0))) (.cells #[.slice Q0 y0.length Q0c, .slice Q1 y1.length Q1c, .slice Q2 y2.length Q2c, .slice Q3 y3.length Q3c, .slice Q4 y4.length Q4c, .slice Q5 y5.length Q5c, .slice Q6 y6.length Q6c, .slice Q7 y7.length Q7c, .bool y8, .bool y9] 26 (0, 0)); rwa [show (w1.alloc (.cells #[.slice P0 x0.length P0c, .slice P1 x1.length P1c, .slice P2 x2.length P2c, .slice P3 x3.length P3c, .slice P4 x4.length P4c, .slice P5 x5.length P5c, .slice P6 x6.length P6c, .slice P7 x7.length P7c, .bool x8, .bool x9] 26 (0, 0))).heap.size = w1.heap.size + 1 from Array.size_push _] at h)
 have HX2 := Aside0.mk (HX1.out.below hb2)
 have HY2 := Aside0.mk (HY1.out.below hb2)
 have HB2 := Aside0.mk (below_step HB1.out hb2)
 rw [← hw2]
 clear hw2 hb2 HX1 HY1 HB1 HD HR0 HC0 HL HB0
 generalize w1.heap.size = gA at *
 generalize hgB : gA + 1 = gB at *
 clear hgB
 have a0 := (blk_cell KA2.out 0).trans rfl
 have b0 := (blk_cell KB2.out 0).trans rfl
 have a1 := (blk_cell KA2.out 1).trans rfl
 have b1 := (blk_cell KB2.out 1).trans rfl
 have a2 := (blk_cell KA2.out 2).trans rfl
 have b2 := (blk_cell KB2.out 2).trans rfl
 have a3 := (blk_cell KA2.out 3).trans rfl
 have b3 := (blk_cell KB2.out 3).trans rfl
 have a4 := (blk_cell KA2.out 4).trans rfl
 have b4 := (blk_cell KB2.out 4).trans rfl
 have a5 := (blk_cell KA2.out 5).trans rfl
 have b5 := (blk_cell KB2.out 5).trans rfl
 have a6 := (blk_cell KA2.out 6).trans rfl
 have b6 := (blk_cell KB2.out 6).trans rfl
 have a7 := (blk_cell KA2.out 7).trans rfl
 have b7 := (blk_cell KB2.out 7).trans rfl
 have a8 := (blk_cell KA2.out 8).trans rfl
 have b8 := (blk_cell KB2.out 8).trans rfl
 have a9 := (blk_cell KA2.out 9).trans rfl
 have b9 := (blk_cell KB2.out 9).trans rfl
 go_upto_region 5 with (go_at_call 6; (with_reducible refine (clashesV k _ _ _ _ _ _ _ _ _ _ _ _ _ _ _ _ _ _ _ _ _ HX2.out HY2.out HAF.out).mono ?_); rintro e w3 ⟨AVA, cVA, rfl, hr, hb⟩; clear a0 b0 a1 b1 a2 b2 a3 b3 a4 b4 a5 b5 a6 b6 a7 b7 a8 b8 a9 b9; have HX3 := Aside0.mk (HX2.out.below hb); have HY3 := Aside0.mk (HY2.out.below hb); have KA3 := Aside0.mk (blk_below KA2.out hb); have KB3 := Aside0.mk (blk_below KB2.out hb); have HB3 := Aside0.mk (below_step HB2.out hb); clear HX2 HY2 KA2 KB2 HB2 ; have VA3 := Aside0.mk hr; clear hr; clear hb; have a0 := (blk_cell KA3.out 0).trans rfl; have b0 := (blk_cell KB3.out 0).trans rfl; have a1 := (blk_cell KA3.out 1).trans rfl; have b1 := (blk_cell KB3.out 1).trans rfl; have a2 := (blk_cell KA3.out 2).trans rfl; have b2 := (blk_cell KB3.out 2).trans rfl; have a3 := (blk_cell KA3.out 3).trans rfl; have b3 := (blk_cell KB3.out 3).trans rfl; have a4 := (blk_cell KA3.out 4).trans rfl; have b4 := (blk_cell KB3.out 4).trans rfl; have a5 := (blk_cell KA3.out 5).trans rfl; have b5 := (blk_cell KB3.out 5).trans rfl; have a6 := (blk_cell KA3.out 6).trans rfl; have b6 := (blk_cell KB3.out 6).trans rfl; have a7 := (blk_cell KA3.out 7).trans rfl; have b7 := (blk_cell KB3.out 7).trans rfl; have a8 := (blk_cell KA3.out 8).trans rfl; have b8 := (blk_cell KB3.out 8).trans rfl; have a9 := (blk_cell KA3.out 9).trans rfl; have b9 := (blk_cell KB3.out 9).trans rfl)
 go_upto_region 6 with (go_at_call 6; (with_reducible refine (clashesV k _ _ _ _ _ _ _ _ _ _ _ _ _ _ _ _ _ _ _ _ _ HY3.out HX3.out HBF.out).mono ?_); rintro e w4 ⟨AVB, cVB, rfl, hr, hb⟩; clear a0 b0 a1 b1 a2 b2 a3 b3 a4 b4 a5 b5 a6 b6 a7 b7 a8 b8 a9 b9; have HX4 := Aside0.mk (HX3.out.below hb); have HY4 := Aside0.mk (HY3.out.below hb); have KA4 := Aside0.mk (blk_below KA3.out hb); have KB4 := Aside0.mk (blk_below KB3.out hb); have HB4 := Aside0.mk (below_step HB3.out hb); have VA4 := Aside0.mk (Kd.V_below VA3.out hb); clear HX3 HY3 KA3 KB3 HB3 VA3; have VB4 := Aside0.mk hr; clear hr; clear hb; have a0 := (blk_cell KA4.out 0).trans rfl; have b0 := (blk_cell KB4.out 0).trans rfl; have a1 := (blk_cell KA4.out 1).trans rfl; have b1 := (blk_cell KB4.out 1).trans rfl; have a2 := (blk_cell KA4.out 2).trans rfl; have b2 := (blk_cell KB4.out 2).trans rfl; have a3 := (blk_cell KA4.out 3).trans rfl; have b3 := (blk_cell KB4.out 3).trans rfl; have a4 := (blk_cell KA4.out 4).trans rfl; have b4 := (blk_cell KB4.out 4).trans rfl; have a5 := (blk_cell KA4.out 5).trans rfl; have b5 := (blk_cell KB4.out 5).trans rfl; have a6 := (blk_cell KA4.out 6).trans rfl; have b6 := (blk_cell KB4.out 6).trans rfl; have a7 := (blk_cell KA4.out 7).trans rfl; have b7 := (blk_cell KB4.out 7).trans rfl; have a8 := (blk_cell KA4.out 8).trans rfl; have b8 := (blk_cell KB4.out 8).trans rfl; have a9 := (blk_cell KA4.out 9).trans rfl; have b9 := (blk_cell KB4.out 9).trans rfl)
 go_upto_region 7 with (first
   | (go_at_call 7; (with_reducible refine (clashesSV k _ _ _ _ _ _ _ _ _ _ _ _ _ _ _ _ _ _ _ _ _ HX4.out HY4.out HSF.out).mono ?_); rintro e w5 ⟨AVS, cVS, rfl, hr, hb⟩; clear a0 b0 a1 b1 a2 b2 a3 b3 a4 b4 a5 b5 a6 b6 a7 b7 a8 b8 a9 b9; have HX5 := Aside0.mk (HX4.out.below hb); have HY5 := Aside0.mk (HY4.out.below hb); have KA5 := Aside0.mk (blk_below KA4.out hb); have KB5 := Aside0.mk (blk_below KB4.out hb); have HB5 := Aside0.mk (below_step HB4.out hb); have VA5 := Aside0.mk (Kd.V_below VA4.out hb); have VB5 := Aside0.mk (Kd.V_below VB4.out hb); clear HX4 HY4 KA4 KB4 HB4 VA4 VB4; have VS5 := Aside0.mk hr; clear hr; clear hb; rw [← HAS.out]; have a0 := (blk_cell KA5.out 0).trans rfl; have b0 := (blk_cell KB5.out 0).trans rfl; have a1 := (blk_cell KA5.out 1).trans rfl; have b1 := (blk_cell KB5.out 1).trans rfl; have a2 := (blk_cell KA5.out 2).trans rfl; have b2 := (blk_cell KB5.out 2).trans rfl; have a3 := (blk_cell KA5.out 3).trans rfl; have b3 := (blk_cell KB5.out 3).trans rfl; have a4 := (blk_cell KA5.out 4).trans rfl; have b4 := (blk_cell KB5.out 4).trans rfl; have a5 := (blk_cell KA5.out 5).trans rfl; have b5 := (blk_cell KB5.out 5).trans rfl; have a6 := (blk_cell KA5.out 6).trans rfl; have b6 := (blk_cell KB5.out 6).trans rfl; have a7 := (blk_cell KA5.out 7).trans rfl; have b7 := (blk_cell KB5.out 7).trans rfl; have a8 := (blk_cell KA5.out 8).trans rfl; have b8 := (blk_cell KB5.out 8).trans rfl; have a9 := (blk_cell KA5.out 9).trans rfl; have b9 := (blk_cell KB5.out 9).trans rfl)
   | (go_at_call 8; (with_reducible refine (apartV k _ _ _ _ _ _ _ _ _ _ _ _ _ _ _ _ _ _ _ _ _ HX5.out HY5.out HPF.out).mono ?_); rintro e w6 ⟨rfl, hb⟩; clear a0 b0 a1 b1 a2 b2 a3 b3 a4 b4 a5 b5 a6 b6 a7 b7 a8 b8 a9 b9; have HX6 := Aside0.mk (HX5.out.below hb); have HY6 := Aside0.mk (HY5.out.below hb); have KA6 := Aside0.mk (blk_below KA5.out hb); have KB6 := Aside0.mk (blk_below KB5.out hb); have HB6 := Aside0.mk (below_step HB5.out hb); have VA6 := Aside0.mk (Kd.V_below VA5.out hb); have VB6 := Aside0.mk (Kd.V_below VB5.out hb); have VS6 := Aside0.mk (Kd.V_below VS5.out hb); clear HX5 HY5 KA5 KB5 HB5 VA5 VB5 VS5; clear hb; have a0 := (blk_cell KA6.out 0).trans rfl; have b0 := (blk_cell KB6.out 0).trans rfl; have a1 := (blk_cell KA6.out 1).trans rfl; have b1 := (blk_cell KB6.out 1).trans rfl; have a2 := (blk_cell KA6.out 2).trans rfl; have b2 := (blk_cell KB6.out 2).trans rfl; have a3 := (blk_cell KA6.out 3).trans rfl; have b3 := (blk_cell KB6.out 3).trans rfl; have a4 := (blk_cell KA6.out 4).trans rfl; have b4 := (blk_cell KB6.out 4).trans rfl; have a5 := (blk_cell KA6.out 5).trans rfl; have b5 := (blk_cell KB6.out 5).trans rfl; have a6 := (blk_cell KA6.out 6).trans rfl; have b6 := (blk_cell KB6.out 6).trans rfl; have a7 := (blk_cell KA6.out 7).trans rfl; have b7 := (blk_cell KB6.out 7).trans rfl; have a8 := (blk_cell KA6.out 8).trans rfl; have b8 := (blk_cell KB6.out 8).trans rfl; have a9 := (blk_cell KA6.out 9).trans rfl; have b9 := (blk_cell KB6.out 9).trans rfl))
 have HL1 := Aside0.mk hla
 clear a0 b0 a1 b1 a2 b2 a3 b3 a4 b4 a5 b5 a6 b6 a7 b7 a8 b8 a9 b9
 go_loopg [8] la.length (fun kq v8 w' => ∃ i : Nat, v8 = .int .i64 (i : Int) ∧ Aside0 (i + kq = la.length) ∧ Aside0 (∃ m, w' = w6.drewN m))
 case atStart => exact ⟨0, rfl, ⟨by omega⟩, ⟨0, rfl⟩⟩
 case round =>
  obtain ⟨i, rfl, HI, HW⟩ := hrel
  obtain ⟨m, rfl⟩ := HW.out
  by_cases ci : i < la.length
  ·have cb : decide ((i : Int) < (la.length : Int)) = true := decide_eq_true (by omega)
   obtain ⟨ad1, e1, q10, q11⟩ := at_T33 (Kd.V_reads' VA6.out).2.2 (i : Int) (by omega) (by omega)
   obtain ⟨ad2, e2, q20, q21⟩ := at_T33 (Kd.V_reads' VB6.out).2.2 (i : Int) (by omega) (by omega)
   cases e1
   cases e2
   rw [Int.toNat_natCast] at q10 q11 q20 q21
   have p0 : (0 ≤ (i : Int)) = True := eq_true (by omega)
   have p1 : ((i : Int) < (la.length : Int)) = True := eq_true (by omega)
   have ce : (!(((rd_T33 la (i : Int)).f0) == ((rd_T33 la (i : Int)).f0)) || (!(((rd_T33 la (i : Int)).f1) == ((rd_T33 la (i : Int)).f1)))) = false := by simp
   go_wp2
   go_quiet (fail)
   go_wp2
   go_roundg (la.length - (i + 1))
   case measure => have := HI.out; omega
   case rel => exact ⟨i + 1, (by first | rfl | (rw [rW1 i (by have := HL1.out; omega)])), ⟨by have := HI.out; omega⟩, ⟨_, rfl⟩⟩
  ·have cb : decide ((i : Int) < (la.length : Int)) = false := decide_eq_false (by omega)
   have hei : i = la.length := by have := HI.out; omega
   subst hei
   obtain ⟨w7, hw7⟩ : ∃ w7, w7 = w6.drewN m := ⟨_, rfl⟩
   have hb7 : Below w6.heap.size w6 w7 := by rw [hw7]; exact pw_below_drewN (Below.refl _ _) _
   rw [← hw7]
   have HX7 := Aside0.mk (HX6.out.below hb7)
   have HY7 := Aside0.mk (HY6.out.below hb7)
   have KA7 := Aside0.mk (blk_below KA6.out hb7)
   have KB7 := Aside0.mk (blk_below KB6.out hb7)
   have HB7 := Aside0.mk (below_step HB6.out hb7)
   have VA7 := Aside0.mk (Kd.V_below VA6.out hb7)
   have VB7 := Aside0.mk (Kd.V_below VB6.out hb7)
   have VS7 := Aside0.mk (Kd.V_below VS6.out hb7)
   clear HX6 HY6 KA6 KB6 HB6 VA6 VB6 VS6
   clear hw7 hb7 HI HW ci
   have a0 := (blk_cell KA7.out 0).trans rfl
   have b0 := (blk_cell KB7.out 0).trans rfl
   have a1 := (blk_cell KA7.out 1).trans rfl
   have b1 := (blk_cell KB7.out 1).trans rfl
   have a2 := (blk_cell KA7.out 2).trans rfl
   have b2 := (blk_cell KB7.out 2).trans rfl
   have a3 := (blk_cell KA7.out 3).trans rfl
   have b3 := (blk_cell KB7.out 3).trans rfl
   have a4 := (blk_cell KA7.out 4).trans rfl
   have b4 := (blk_cell KB7.out 4).trans rfl
   have a5 := (blk_cell KA7.out 5).trans rfl
   have b5 := (blk_cell KB7.out 5).trans rfl
   have a6 := (blk_cell KA7.out 6).trans rfl
   have b6 := (blk_cell KB7.out 6).trans rfl
   have a7 := (blk_cell KA7.out 7).trans rfl
   have b7 := (blk_cell KB7.out 7).trans rfl
   have a8 := (blk_cell KA7.out 8).trans rfl
   have b8 := (blk_cell KB7.out 8).trans rfl
   have a9 := (blk_cell KA7.out 9).trans rfl
   have b9 := (blk_cell KB7.out 9).trans rfl
   go_upto_region 14 with (go_at_call 9; (with_reducible refine (strictlyV k _ _ _ _ _ _ _ _ _ _ _ _ _ _ _ _ _ _ _ _ _ _ HX7.out HY7.out HZF.out).mono ?_); rintro e w8 ⟨AVZ, cVZ, rfl, hr, hb⟩; clear a0 b0 a1 b1 a2 b2 a3 b3 a4 b4 a5 b5 a6 b6 a7 b7 a8 b8 a9 b9; have HX8 := Aside0.mk (HX7.out.below hb); have HY8 := Aside0.mk (HY7.out.below hb); have KA8 := Aside0.mk (blk_below KA7.out hb); have KB8 := Aside0.mk (blk_below KB7.out hb); have HB8 := Aside0.mk (below_step HB7.out hb); have VA8 := Aside0.mk (Kd.V_below VA7.out hb); have VB8 := Aside0.mk (Kd.V_below VB7.out hb); have VS8 := Aside0.mk (Kd.V_below VS7.out hb); clear HX7 HY7 KA7 KB7 HB7 VA7 VB7 VS7; have VZ8 := Aside0.mk hr; clear hr; clear hb; have a0 := (blk_cell KA8.out 0).trans rfl; have b0 := (blk_cell KB8.out 0).trans rfl; have a1 := (blk_cell KA8.out 1).trans rfl; have b1 := (blk_cell KB8.out 1).trans rfl; have a2 := (blk_cell KA8.out 2).trans rfl; have b2 := (blk_cell KB8.out 2).trans rfl; have a3 := (blk_cell KA8.out 3).trans rfl; have b3 := (blk_cell KB8.out 3).trans rfl; have a4 := (blk_cell KA8.out 4).trans rfl; have b4 := (blk_cell KB8.out 4).trans rfl; have a5 := (blk_cell KA8.out 5).trans rfl; have b5 := (blk_cell KB8.out 5).trans rfl; have a6 := (blk_cell KA8.out 6).trans rfl; have b6 := (blk_cell KB8.out 6).trans rfl; have a7 := (blk_cell KA8.out 7).trans rfl; have b7 := (blk_cell KB8.out 7).trans rfl; have a8 := (blk_cell KA8.out 8).trans rfl; have b8 := (blk_cell KB8.out 8).trans rfl; have a9 := (blk_cell KA8.out 9).trans rfl; have b9 := (blk_cell KB8.out 9).trans rfl)
   go_upto_region 15 with (go_at_call 9; (with_reducible refine (strictlyV k _ _ _ _ _ _ _ _ _ _ _ _ _ _ _ _ _ _ _ _ _ _ HY8.out HX8.out HUF.out).mono ?_); rintro e w9 ⟨AVU, cVU, rfl, hr, hb⟩; clear a0 b0 a1 b1 a2 b2 a3 b3 a4 b4 a5 b5 a6 b6 a7 b7 a8 b8 a9 b9; have HX9 := Aside0.mk (HX8.out.below hb); have HY9 := Aside0.mk (HY8.out.below hb); have KA9 := Aside0.mk (blk_below KA8.out hb); have KB9 := Aside0.mk (blk_below KB8.out hb); have HB9 := Aside0.mk (below_step HB8.out hb); have VA9 := Aside0.mk (Kd.V_below VA8.out hb); have VB9 := Aside0.mk (Kd.V_below VB8.out hb); have VS9 := Aside0.mk (Kd.V_below VS8.out hb); have VZ9 := Aside0.mk (Kd.V_below VZ8.out hb); clear HX8 HY8 KA8 KB8 HB8 VA8 VB8 VS8 VZ8; have VU9 := Aside0.mk hr; clear hr; clear hb; have a0 := (blk_cell KA9.out 0).trans rfl; have b0 := (blk_cell KB9.out 0).trans rfl; have a1 := (blk_cell KA9.out 1).trans rfl; have b1 := (blk_cell KB9.out 1).trans rfl; have a2 := (blk_cell KA9.out 2).trans rfl; have b2 := (blk_cell KB9.out 2).trans rfl; have a3 := (blk_cell KA9.out 3).trans rfl; have b3 := (blk_cell KB9.out 3).trans rfl; have a4 := (blk_cell KA9.out 4).trans rfl; have b4 := (blk_cell KB9.out 4).trans rfl; have a5 := (blk_cell KA9.out 5).trans rfl; have b5 := (blk_cell KB9.out 5).trans rfl; have a6 := (blk_cell KA9.out 6).trans rfl; have b6 := (blk_cell KB9.out 6).trans rfl; have a7 := (blk_cell KA9.out 7).trans rfl; have b7 := (blk_cell KB9.out 7).trans rfl; have a8 := (blk_cell KA9.out 8).trans rfl; have b8 := (blk_cell KB9.out 8).trans rfl; have a9 := (blk_cell KA9.out 9).trans rfl; have b9 := (blk_cell KB9.out 9).trans rfl)
   have h8 := H8.out
   clear H8 HAF HBF HSF HPF HZF HUF HAS
   by_cases hc : c < 0 ∨ 12 < c
   ·rw [if_pos hc] at h8
    obtain ⟨⟨hz0, hu0⟩, h9⟩ := iteN h8
    injection h9 with h9
    subst h9
    have cz : ((lz.length : Int) == 0) = true := beq_iff_eq.2 (by omega)
    have cu : ((lu.length : Int) == 0) = true := beq_iff_eq.2 (by omega)
    clear h8 hz0 hu0 a0 b0 a1 b1 a2 b2 a3 b3 a4 b4 a5 b5 a6 b6 a7 b7 a8 b8 a9 b9
    by_cases hc0 : c < 0
    ·have d0 : decide (c < 0) = true := decide_eq_true hc0
     clear hc hc0
     go_wp2
     go_ret
     exact ⟨rfl, HB9.out⟩
    ·have d0 : decide (c < 0) = false := decide_eq_false hc0
     have d1 : decide (12 < c) = true := decide_eq_true (by omega)
     clear hc hc0
     go_wp2
     go_ret
     exact ⟨rfl, HB9.out⟩
   rw [if_neg hc] at h8
   have d0 : decide (c < 0) = false := decide_eq_false (by omega)
   have d1 : decide (12 < c) = false := decide_eq_false (by omega)
   obtain ⟨⟨hzu, hzl, hle, htk, hdr⟩, h9⟩ := iteN h8
   obtain rfl := cP_inj hzu
   have htk := cP_inj htk
   have H9 := Aside0.mk h9
   have HZL := Aside0.mk hzl
   have HTK := Aside0.mk htk
   have HDR := Aside0.mk hdr
   have HLE := Aside0.mk hle
   have czz : ((lz.length : Int) == (lz.length : Int)) = true := beq_iff_eq.2 rfl
   have dl : decide ((lz.length : Int) < (la.length : Int)) = false := decide_eq_false (by omega)
   clear h8 h9 hzu hzl htk hdr hc a0 b0 a1 b1 a2 b2 a3 b3 a4 b4 a5 b5 a6 b6 a7 b7 a8 b8 a9 b9
   go_wp2
   go_loopg [11] lz.length (fun kq v11 w' => ∃ i : Nat, v11 = .int .i64 (i : Int) ∧ Aside0 (i + kq = lz.length) ∧ Aside0 (∃ m, w' = w9.drewN m))
   case atStart => exact ⟨0, rfl, ⟨by omega⟩, ⟨0, rfl⟩⟩
   case round =>
    obtain ⟨i, rfl, HI, HW⟩ := hrel
    obtain ⟨m, rfl⟩ := HW.out
    obtain ⟨x, hx⟩ : ∃ x : Int, x = (i : Int) := ⟨_, rfl⟩
    rw [← hx]
    have HXI := Aside0.mk hx
    by_cases ci : i < lz.length
    ·have cb : decide (x < (lz.length : Int)) = true := decide_eq_true (by omega)
     obtain ⟨ad1, e1, q10, q11⟩ := at_T33 (Kd.V_reads' VZ9.out).2.2 x (by omega) (by omega)
     obtain ⟨ad2, e2, q20, q21⟩ := at_T33 (Kd.V_reads' VU9.out).2.2 x (by omega) (by omega)
     cases e1
     cases e2
     have p0 : (0 ≤ x) = True := eq_true (by omega)
     have p1 : (x < (lz.length : Int)) = True := eq_true (by omega)
     have ce : (!(((rd_T33 lz x).f0) == ((rd_T33 lz x).f0)) || (!(((rd_T33 lz x).f1) == ((rd_T33 lz x).f1)))) = false := by simp
     by_cases cj : i < la.length
     ·have cb2 : decide (x < (la.length : Int)) = true := decide_eq_true (by omega)
      have cb3 : decide ((la.length : Int) ≤ x) = false := decide_eq_false (by omega)
      obtain ⟨ad3, e3, q30, q31⟩ := at_T33 (Kd.V_reads' VA9.out).2.2 x (by omega) (by omega)
      cases e3
      have ez : rd_T33 la x = rd_T33 lz x := by
       have h := HTK.out
       unfold rd_T33
       rw [hx, Int.toNat_natCast, List.getD_eq_getElem?_getD, List.getD_eq_getElem?_getD]
       have : la[i]? = lz[i]? := (congrArg (fun l => l[i]?) h.symm).trans (List.getElem?_take_of_lt cj)
       rw [this]
      rw [ez] at q30 q31
      have p2 : (x < (la.length : Int)) = True := eq_true (by omega)
      have HCI := Aside0.mk ci
      clear ez cj ci hx
      go_wp2
      go_quiet (fail)
      go_wp2
      go_roundg (lz.length - (i + 1))
      case measure => have := HI.out; have := HCI.out; omega
      case rel => exact ⟨i + 1, (by rw [HXI.out]; first | rfl | (rw [rW1 i (by have := HZL.out; have := HCI.out; omega)])), ⟨by have := HI.out; have := HCI.out; omega⟩, ⟨_, rfl⟩⟩
     ·have cb2 : decide (x < (la.length : Int)) = false := decide_eq_false (by omega)
      have cb3 : decide ((la.length : Int) ≤ x) = true := decide_eq_true (by omega)
      have cs : ((rd_T33 lz x).f0 == 4) = true := by
       have h := HDR.out (rd_T33 lz x) (by
        have hi : i - la.length < (lz.drop la.length).length := by rw [List.length_drop]; omega
        have : rd_T33 lz x = (lz.drop la.length)[i - la.length]'hi := by
         unfold rd_T33
         rw [hx, Int.toNat_natCast, List.getD_eq_getElem?_getD, List.getElem?_eq_getElem ci, List.getElem_drop]
         simp only [Option.getD_some]
         congr 1
         omega
        rw [this]
        exact List.getElem_mem _)
       exact beq_iff_eq.2 h
      have cs1 : ((rd_T33 lz x).f0 != 4) = false := bne_eq_false_iff_eq.mpr (beq_iff_eq.1 cs)
      have HCI := Aside0.mk ci
      clear cj ci hx
      go_wp2
      go_quiet (fail)
      go_wp2
      go_roundg (lz.length - (i + 1))
      case measure => have := HI.out; have := HCI.out; omega
      case rel => exact ⟨i + 1, (by rw [HXI.out]; first | rfl | (rw [rW1 i (by have := HZL.out; have := HCI.out; omega)])), ⟨by have := HI.out; have := HCI.out; omega⟩, ⟨_, rfl⟩⟩
    ·have cb : decide (x < (lz.length : Int)) = false := decide_eq_false (by omega)
     have hei : i = lz.length := by have := HI.out; omega
     subst hei
     obtain ⟨w10, hw10⟩ : ∃ w10, w10 = w9.drewN m := ⟨_, rfl⟩
     have hb10 : Below w9.heap.size w9 w10 := by rw [hw10]; exact pw_below_drewN (Below.refl _ _) _
     rw [← hw10]
     have HX10 := Aside0.mk (HX9.out.below hb10)
     have HY10 := Aside0.mk (HY9.out.below hb10)
     have KA10 := Aside0.mk (blk_below KA9.out hb10)
     have KB10 := Aside0.mk (blk_below KB9.out hb10)
     have HB10 := Aside0.mk (below_step HB9.out hb10)
     have VA10 := Aside0.mk (Kd.V_below VA9.out hb10)
     have VB10 := Aside0.mk (Kd.V_below VB9.out hb10)
     have VS10 := Aside0.mk (Kd.V_below VS9.out hb10)
     have VZ10 := Aside0.mk (Kd.V_below VZ9.out hb10)
     have VU10 := Aside0.mk (Kd.V_below VU9.out hb10)
     clear HX9 HY9 KA9 KB9 HB9 VA9 VB9 VS9 VZ9 VU9
     clear hw10 hb10 HI HW ci
     have a0 := (blk_cell KA10.out 0).trans rfl
     have b0 := (blk_cell KB10.out 0).trans rfl
     have a1 := (blk_cell KA10.out 1).trans rfl
     have b1 := (blk_cell KB10.out 1).trans rfl
     have a2 := (blk_cell KA10.out 2).trans rfl
     have b2 := (blk_cell KB10.out 2).trans rfl
     have a3 := (blk_cell KA10.out 3).trans rfl
     have b3 := (blk_cell KB10.out 3).trans rfl
     have a4 := (blk_cell KA10.out 4).trans rfl
     have b4 := (blk_cell KB10.out 4).trans rfl
     have a5 := (blk_cell KA10.out 5).trans rfl
     have b5 := (blk_cell KB10.out 5).trans rfl
     have a6 := (blk_cell KA10.out 6).trans rfl
     have b6 := (blk_cell KB10.out 6).trans rfl
     have a7 := (blk_cell KA10.out 7).trans rfl
     have b7 := (blk_cell KB10.out 7).trans rfl
     have a8 := (blk_cell KA10.out 8).trans rfl
     have b8 := (blk_cell KB10.out 8).trans rfl
     have a9 := (blk_cell KA10.out 9).trans rfl
     have b9 := (blk_cell KB10.out 9).trans rfl
     have hlA := blk_lt KA10.out
     have hlB := blk_lt KB10.out
     go_upto_region 26 with (fail)
     obtain ⟨w11, hw11⟩ : ∃ w11, w11 = w10.alloc (.cells #[.slice P0 x0.length P0c, .slice none 0 0, .slice P2 x2.length P2c, .slice P3 x3.length P3c, .slice none 0 0, .slice none 0 0, .slice P6 x6.length P6c, .slice none 0 0, .bool false, .bool false] 26 (0, 0)) := ⟨_, rfl⟩
     have hb11 : Below w10.heap.size w10 w11 := by rw [hw11]; exact below_alloc (Below.refl _ _) _
     have HX11 := HX10.out.below hb11
     have HY11 := HY10.out.below hb11
     rw [← hw11]
     have hx12 : E8V w11 (fun _ => True) (.slice P0 x0.length P0c) (.slice none 0 0) (.slice P2 x2.length P2c) (.slice P3 x3.length P3c) (.slice none 0 0) (.slice none 0 0) (.slice P6 x6.length P6c) (.slice none 0 0) x0 [] x2 x3 [] [] x6 [] := ⟨HX11.1, Kd.V_nil _ _ _ _ _, HX11.2.2.1, HX11.2.2.2.1, Kd.V_nil _ _ _ _ _, Kd.V_nil _ _ _ _ _, HX11.2.2.2.2.2.2.1, Kd.V_nil _ _ _ _ _⟩
     have hy12 : E8V w11 (fun _ => True) (.slice Q0 y0.length Q0c) (.slice none 0 0) (.slice none 0 0) (.slice Q3 y3.length Q3c) (.slice none 0 0) (.slice none 0 0) (.slice Q6 y6.length Q6c) (.slice none 0 0) y0 [] [] y3 [] [] y6 [] := ⟨HY11.1, Kd.V_nil _ _ _ _ _, Kd.V_nil _ _ _ _ _, HY11.2.2.2.1, Kd.V_nil _ _ _ _ _, Kd.V_nil _ _ _ _ _, HY11.2.2.2.2.2.2.1, Kd.V_nil _ _ _ _ _⟩
     with_reducible refine (apartV k x0 [] x2 x3 [] [] x6 [] false false y0 [] [] y3 [] [] y6 [] false false r hx12 hy12 H9.out).mono ?_
     rintro e w12 ⟨rfl, hb⟩
     have HB12 := Aside0.mk (below_step (below_step HB10.out hb11) hb)
     clear hb hb11 HX11 HY11 hx12 hy12 hw11 a0 b0 a1 b1 a2 b2 a3 b3 a4 b4 a5 b5 a6 b6 a7 b7 a8 b8 a9 b9
     dsimp only
     go_wp2
     go_ret
     exact ⟨rfl, HB12.out⟩

end Go.Proofs.Ytejbndfhaemigaa.PFnClashes
