-- written by wip/tools/myprint.py out of the program's own print
import Derived.Test.YtiiakeakfllpjaaPFnExactFoldx0
import Derived.Test.YtiiakeakfllpjaaPFnExactFoldx8
import Derived.Test.YtiiakeakfllpjaaPFnExactFoldx11
namespace Go.Proofs.Ytiiakeakfllpjaa.PFnExactFold
open Go.Proofs.Ytiiakeakfllpjaa.Own (rS cS bS rB rN rT kS kC kc10 kf10)
open Go.RowKit Go.Proofs.YtiiakeakfllpjaaW.PrintWords Go.Proofs.YtiiakeakfllpjaaW.PrintLast Go.Proofs.YtiiakeakfllpjaaW.PrintMore
attribute [local go_sem] max2_int min2_int max_two min_two max_three min_three max_four min_four   -- for this text's walks alone
set_option linter.unusedVariables false
set_option linter.unusedSimpArgs false

/-! ### impl_TreeOk: function 17 -/
def FnV (g : FuncId) (cap : Array Value) (p : Int → Bool) (w : World) : Prop := (∀ args w, (callFunc g args).run Try.prog w = .ok (.enter g args) w) ∧ ∀ (W : World) (k : Int), Below w.heap.size w W → Calls Try.prog g (#[.int .i64 k] ++ cap) W fun e w' => e = .returned (.bool (p k)) ∧ ∃ q, w' = W.drewN q
theorem FnV.below {g : FuncId} {cap : Array Value} {p : Int → Bool} {w w1 : World} (h : FnV g cap p w) (hb : Below w.heap.size w w1) : FnV g cap p w1 := ⟨h.1, fun W k hW => h.2 W k (below_step hb hW)⟩
theorem enterT {P : Program} {f : FuncId} {fn : Func} {c : Code} (hf : P.funcs[f]? = some fn) (hname : (fn.name == "runtime.NumGoroutine") = false) (hb : fn.body = some c) (args : Array Value) (w : World) : (callFunc f args).run P w = .ok (.enter f args) w := by
  have h1 : fn.name ≠ "runtime.NumGoroutine" := by simpa using hname
  simp [callFunc, hf, h1, hb, mark]
def isExprV (k : Int) : Bool := decide (1 ≤ k ∧ k ≤ 11)
def isStatV (k : Int) : Bool := decide (12 ≤ k ∧ k ≤ 26)
theorem isExpr_eq (k : Int) : impl_isExpr.f k = some (isExprV k) := by
  unfold impl_isExpr.f impl_within.f isExprV
  split <;> simp [*]
theorem isStat_eq (k : Int) : impl_isStatement.f k = some (isStatV k) := by
  unfold impl_isStatement.f impl_within.f isStatV
  split <;> simp [*]
theorem fnExpr (w : World) : FnV 45 #[] isExprV w := ⟨enterT Try.func45 (by kernel_rfl) rfl, fun W k _ => (impl_isExpr.calls k _ W (isExpr_eq k)).mono fun e w' h => by
  first | exact h | exact ⟨h.1, h.2.out⟩⟩
theorem fnStat (w : World) : FnV 47 #[] isStatV w := ⟨enterT Try.func47 (by kernel_rfl) rfl, fun W k _ => (impl_isStatement.calls k _ W (isStat_eq k)).mono fun e w' h => by
  first | exact h | exact ⟨h.1, h.2.out⟩⟩
theorem fnJust (w : World) (B : Nat) (kd : Int) (hc : w.cell? ⟨B, 0, none⟩ = some (.int .i64 kd)) : FnV 85 #[.pointer (some ⟨B, 0, none⟩)] (fun k => k == kd) w := ⟨enterT Try.func85 (by kernel_rfl) rfl, fun W k hb => by
  have hc2 := pw_cell_below hb hc
  clear hc hb
  show Calls Try.prog 85 #[.int .i64 k, .pointer (some ⟨B, 0, none⟩)] W _
  go_enter Try.func85, Try.ntmps85
  go_wp2
  go_ret
  exact ⟨rfl, 0, rfl⟩⟩
set_option maxHeartbeats 4000000 in
theorem just209.calls (kd : Int) (w : World) : Calls Try.prog 66 #[.int .i64 kd] w fun e w' => ∃ B : Nat, e = .returned (.func (.func 85) #[] #[.pointer (some ⟨B, 0, none⟩)]) ∧ w'.cell? ⟨B, 0, none⟩ = some (.int .i64 kd) ∧ Below w.heap.size w w' := by
  have hmf : ∀ (fn : Fn) (first cap : Array Value) (w : World), (Instr.makeFunc fn first cap).run Try.prog w = .ok (.func fn first cap) w := fun _ _ _ _ => rfl
  go_enter Try.func66, Try.ntmps66
  go_wp2
  go_ret
  exact ⟨w.heap.size, rfl, by simp, below_alloc (Below.refl _ _) _⟩
/-- A tree in memory: its own block, its nodes and its tops. -/
structure TreeAt (w : World) (g : Nat) (A : Option Addr) (c : Nat) (nodes : List S56) (B : Option Addr) (d : Nat) (tops : List Int) : Prop where
  own : w.heap[g]? = some (.cells #[.slice A nodes.length c, .slice B tops.length d] 29 (0, 0))
  hn : Kd.C k56 w A nodes.length nodes
  ht : Kd.C (Kd.int .i64) w B tops.length tops
  cap : nodes.length ≤ c
  cap2 : tops.length ≤ d
theorem TreeAt.below {w w1 : World} {g : Nat} {A : Option Addr} {c : Nat} {nodes : List S56} {B : Option Addr} {d : Nat} {tops : List Int} (h : TreeAt w g A c nodes B d tops) (hb : Below w.heap.size w w1) : TreeAt w1 g A c nodes B d tops :=
  ⟨blk_below h.own hb, Kd.C_below h.hn hb, Kd.C_below h.ht hb, h.cap, h.cap2⟩
theorem tW (i : Nat) (h : i ≤ 9223372036854775806) : wrap64 ((i : Int) + 1) = ((i + 1 : Nat) : Int) := by
  unfold wrap64
  omega
def kidsIn (nodes : List S56) (kids : List Int) : Prop := ∀ x ∈ kids, 0 ≤ x ∧ x < (nodes.length : Int)
theorem drewN_below {w : World} (n : Nat) : Below w.heap.size w (w.drewN n) := pw_below_drewN (Below.refl _ _) n
set_option maxHeartbeats 4000000 in
set_option maxRecDepth 100000 in
theorem are207.calls (g : FuncId) (cap : Array Value) (p : Int → Bool) (gt : Nat) (A : Option Addr) (c : Nat) (nodes : List S56) (B : Option Addr) (d : Nat) (tops : List Int) (K : Option Addr) (kc : Nat) (kids : List Int) (w : World) (hF : FnV g cap p w) (hT : TreeAt w gt A c nodes B d tops) (hK : Kd.C (Kd.int .i64) w K kids.length kids) (hin : kidsIn nodes kids) :
    Calls Try.prog 64 #[.pointer (some ⟨gt, 0, none⟩), .slice K kids.length kc, .func (.func g) #[] cap] w fun e w' => e = .returned (.bool (kids.all fun x => p (rd_T56 nodes x).f0)) ∧ Below w.heap.size w w' := by
  have eg := hF.1
  have HF := Aside0.mk hF
  have HT := Aside0.mk hT
  have HK := Aside0.mk hK
  have HI := Aside0.mk hin
  have HM := Aside0.mk (show kids.length ≤ 9223372036854775807 from hK.2.1)
  clear hF hT hK hin
  go_enter Try.func64, Try.ntmps64
  go_wp2
  go_loopg [11] kids.length (fun kq v11 w' => ∃ i : Nat, v11 = .int .i64 (i : Int) ∧ Aside0 (i + kq = kids.length) ∧ Aside0 (((kids.take i).all fun x => p (rd_T56 nodes x).f0) = true) ∧ Aside0 (Below w.heap.size w w'))
  case atStart => exact ⟨0, rfl, ⟨by omega⟩, ⟨rfl⟩, ⟨Below.refl _ _⟩⟩
  case round =>
    obtain ⟨i, rfl, HX, HA, HB⟩ := hrel
    by_cases c1 : i < kids.length
    · have cb : decide ((i : Int) < (kids.length : Int)) = true := by simpa using c1
      have HTr := HT.out.below HB.out
      obtain ⟨ad, ead, hx⟩ := Kd.at_int (Kd.C_below HK.out HB.out) (i : Int) (by omega) (by omega)
      cases ead
      rw [Int.toNat_natCast] at hx
      have hmem : rd kids (i : Int) ∈ kids := by
        unfold rd
        rw [Int.toNat_natCast, List.getD_eq_getElem?_getD, List.getElem?_eq_getElem c1]
        exact List.getElem_mem c1
      have hall : ((kids.take (i + 1)).all fun x => p (rd_T56 nodes x).f0) = p (rd_T56 nodes (rd kids (i : Int))).f0 := by
        rw [List.take_succ_eq_append_getElem c1, List.all_append, HA.out]
        simp only [List.all_cons, List.all_nil, Bool.and_true, Bool.true_and]
        unfold rd
        rw [Int.toNat_natCast, List.getD_eq_getElem?_getD, List.getElem?_eq_getElem c1]
        rfl
      have hsub : (kids.all fun x => p (rd_T56 nodes x).f0) = true → p (rd_T56 nodes (rd kids (i : Int))).f0 = true := fun h => List.all_eq_true.1 h _ hmem
      obtain ⟨p0, q0⟩ := HI.out _ hmem
      generalize rd kids (i : Int) = x at hx hmem hall hsub p0 q0
      obtain ⟨nd, NA, nc, end_, hy, _⟩ := at_T56 HTr.hn x p0 q0
      cases end_
      have k0 : wr.cell? ⟨gt, 0, none⟩ = some (.slice (some nd) nodes.length c) := (blk_cell HTr.own 0).trans rfl
      have hcall := HF.out.2 wr (rd_T56 nodes x).f0 HB.out
      have HALL := Aside0.mk hall
      have HSUB := Aside0.mk hsub
      clear hall hsub hmem HTr
      replace p0 := eq_true p0
      replace q0 := eq_true q0
      generalize (rd_T56 nodes x).f0 = y at hy hcall HALL HSUB
      cases hp : p y with
      | true =>
        rw [hp] at hcall
        have HP := Aside0.mk hp
        clear hp
        go_wp2_with (first | (go_at_fn g; refine hcall.mono ?_; rintro e w1 ⟨rfl, q, rfl⟩))
        go_roundg (kids.length - (i + 1))
        case measure => have := HX.out; omega
        case rel => exact ⟨i + 1, (by first | rfl | rw [tW i (by have := HM.out; have := HX.out; omega)]), ⟨by have := HX.out; omega⟩, ⟨by rw [HALL.out]; exact HP.out⟩, ⟨pw_below_drewN HB.out _⟩⟩
      | false =>
        rw [hp] at hcall
        have HP := Aside0.mk hp
        clear hp
        go_wp2_with (first | (go_at_fn g; refine hcall.mono ?_; rintro e w1 ⟨rfl, q, rfl⟩))
        go_ret
        refine ⟨?_, pw_below_drewN HB.out _⟩
        cases hk : (kids.all fun x => p (rd_T56 nodes x).f0) with
        | false => rfl
        | true =>
          have := HSUB.out hk
          rw [HP.out] at this
          cases this
    · have cb : decide ((i : Int) < (kids.length : Int)) = false := by simpa using c1
      have ei : i = kids.length := by have := HX.out; omega
      subst ei
      rw [List.take_length] at HA
      go_wp2
      go_ret
      exact ⟨congrArg (fun b => Ending.returned (Value.bool b)) HA.out.symm, HB.out⟩
structure FT where
  g : FuncId
  cap : Array Value
  p : Int → Bool
def FsAt (w : World) (F : Option Addr) (fs : List FT) : Prop := fs.length ≤ 100 ∧ ∃ ad, F = some ad ∧ ∀ j t, fs[j]? = some t → w.cell? (ad.add j) = some (.func (.func t.g) #[] t.cap) ∧ FnV t.g t.cap t.p w
theorem FsAt.below {w w1 : World} {F : Option Addr} {fs : List FT} (h : FsAt w F fs) (hb : Below w.heap.size w w1) : FsAt w1 F fs := by
  obtain ⟨h0, ad, e, h⟩ := h
  exact ⟨h0, ad, e, fun j t ht => ⟨pw_cell_below hb (h j t ht).1, (h j t ht).2.below hb⟩⟩
def kidOk (nodes : List S56) (kids : List Int) (fs : List FT) (j : Nat) : Bool := match kids[j]?, fs[j]? with
  | some x, some t => t.p (rd_T56 nodes x).f0
  | _, _ => false
def kidsOk (nodes : List S56) (kids : List Int) (fs : List FT) : Bool := decide (kids.length = fs.length) && (List.range fs.length).all (kidOk nodes kids fs)
set_option maxHeartbeats 4000000 in
set_option maxRecDepth 100000 in
theorem kidsAre208.calls (gt : Nat) (A : Option Addr) (c : Nat) (nodes : List S56) (B : Option Addr) (d : Nat) (tops : List Int) (a0_0 : Int) (a0_1 : ByteArray) (a0_2 : Int) (A0_3 : Option Addr) (c0_3 : Nat) (kids : List Int) (F : Option Addr) (fc : Nat) (fs : List FT) (w : World) (hT : TreeAt w gt A c nodes B d tops) (hK : Kd.C (Kd.int .i64) w A0_3 kids.length kids) (hin : kidsIn nodes kids) (hF : FsAt w F fs) :
    Calls Try.prog 65 #[.pointer (some ⟨gt, 0, none⟩), .agg #[.int .i64 a0_0, .string a0_1, .int .i64 a0_2, .slice A0_3 kids.length c0_3], .slice F fs.length fc] w fun e w' => e = .returned (.bool (kidsOk nodes kids fs)) ∧ Below w.heap.size w w' := by
  have hu141 := Try.underlying56
  have HT := Aside0.mk hT
  have HK := Aside0.mk hK
  have HI := Aside0.mk hin
  have HF := Aside0.mk hF
  have hfl := hF.1
  obtain ⟨adF, rfl, _⟩ := hF.2
  clear hT hK hin hF
  have HB := Aside0.mk (Below.refl w.heap.size w)
  by_cases cl : kids.length = fs.length
  · have cb : ((kids.length : Int) != (fs.length : Int)) = false := bne_eq_false_iff_eq.2 (by rw [cl])
    have HL := Aside0.mk cl
    have HFL := Aside0.mk hfl
    clear cl hfl
    go_enter Try.func65, Try.ntmps65
    go_wp2
    go_loopg [17] fs.length (fun kq v17 w' => ∃ i : Nat, v17 = .int .i64 (i : Int) ∧ Aside0 (i + kq = fs.length) ∧ Aside0 ((List.range i).all (kidOk nodes kids fs) = true) ∧ Aside0 (Below w.heap.size w w') ∧ w'.cell? ⟨w.heap.size, 3, none⟩ = some (.slice A0_3 kids.length c0_3))
    case atStart => exact ⟨0, rfl, ⟨by omega⟩, ⟨rfl⟩, ⟨below_alloc (Below.refl _ _) _⟩, by simp⟩
    case round =>
      obtain ⟨i, rfl, HX, HA, HB2, hc3⟩ := hrel
      by_cases c1 : i < fs.length
      · have cb1 : decide ((i : Int) < (fs.length : Int)) = true := by simpa using c1
        have HTr := HT.out.below HB2.out
        obtain ⟨_, ad, ead, hFr⟩ := HF.out.below HB2.out
        cases ead
        obtain ⟨⟨g, cap, p⟩, hft⟩ : ∃ f, fs[i]? = some f := ⟨_, List.getElem?_eq_getElem c1⟩
        obtain ⟨hcf, hfv⟩ := hFr i _ hft
        have hfv : FnV g cap p wr := hfv
        have eg := hfv.1
        have hcf : wr.cell? (adF.add i) = some (.func (.func g) #[] cap) := hcf
        have hik : i < kids.length := by have := HL.out; omega
        obtain ⟨ad3, ead, hx⟩ := Kd.at_int (Kd.C_below HK.out HB2.out) (i : Int) (by omega) (by omega)
        cases ead
        rw [Int.toNat_natCast] at hx
        have hmem : rd kids (i : Int) ∈ kids := by
          unfold rd
          rw [Int.toNat_natCast, List.getD_eq_getElem?_getD, List.getElem?_eq_getElem hik]
          exact List.getElem_mem hik
        have hok : kidOk nodes kids fs i = p (rd_T56 nodes (rd kids (i : Int))).f0 := by
          unfold kidOk
          rw [hft, List.getElem?_eq_getElem hik]
          simp only []
          unfold rd
          rw [Int.toNat_natCast, List.getD_eq_getElem?_getD, List.getElem?_eq_getElem hik]
          rfl
        obtain ⟨p0, q0⟩ := HI.out _ hmem
        generalize rd kids (i : Int) = x at hx hmem hok p0 q0
        obtain ⟨nd, NA, nc, end_, hy, _⟩ := at_T56 HTr.hn x p0 q0
        cases end_
        have k0 : wr.cell? ⟨gt, 0, none⟩ = some (.slice (some nd) nodes.length c) := (blk_cell HTr.own 0).trans rfl
        have hcall := fun m => hfv.2 (wr.drewN m) (rd_T56 nodes x).f0 (drewN_below m)
        have HOK := Aside0.mk hok
        have HI1 := Aside0.mk c1
        have hki : (i : Int) < (kids.length : Int) := by omega
        clear hok hmem HTr hfv hFr hft hik HT HF HK
        replace p0 := eq_true p0
        replace q0 := eq_true q0
        generalize (rd_T56 nodes x).f0 = y at hy hcall HOK
        cases hp : p y with
        | true =>
          rw [hp] at hcall HOK
          clear hp
          go_wp2
          go_quiet ((go_at_fn g; refine (hcall _).mono ?_; rintro e w1 ⟨rfl, q, rfl⟩; exact ⟨rfl, _, World.drewN_drewN _ _ _⟩))
          go_wp2
          go_roundg (fs.length - (i + 1))
          case measure => have := HX.out; omega
          case rel => exact ⟨i + 1, (by first | rfl | rw [tW i (by have := HFL.out; have := HI1.out; omega)]), ⟨by have := HX.out; have := HI1.out; omega⟩, ⟨by rw [List.range_succ, List.all_append, HA.out]; simp [HOK.out]⟩, ⟨pw_below_drewN HB2.out _⟩, hc3⟩
        | false =>
          rw [hp] at hcall HOK
          clear hp
          go_wp2
          go_quiet ((go_at_fn g; refine (hcall _).mono ?_; rintro e w1 ⟨rfl, q, rfl⟩; exact ⟨rfl, _, World.drewN_drewN _ _ _⟩))
          go_wp2
          go_ret
          refine ⟨?_, pw_below_drewN HB2.out _⟩
          have hall : (List.range fs.length).all (kidOk nodes kids fs) = false := by
            cases hk : (List.range fs.length).all (kidOk nodes kids fs) with
            | false => rfl
            | true =>
              have := List.all_eq_true.1 hk i (List.mem_range.2 HI1.out)
              rw [HOK.out] at this
              cases this
          unfold kidsOk
          rw [hall, Bool.and_false]
          rfl
      · have cb1 : decide ((i : Int) < (fs.length : Int)) = false := by simpa using c1
        have ei : i = fs.length := by have := HX.out; omega
        subst ei
        go_wp2
        go_ret
        refine ⟨?_, HB2.out⟩
        unfold kidsOk
        rw [HA.out, decide_eq_true HL.out]
        rfl
  · have cb : ((kids.length : Int) != (fs.length : Int)) = true := bne_iff_ne.2 (fun h => cl (by omega))
    have ck : kidsOk nodes kids fs = false := by unfold kidsOk; rw [decide_eq_false cl]; rfl
    rw [ck]
    clear cl ck
    go_enter Try.func65, Try.ntmps65
    go_wp2
    go_ret
    exact ⟨rfl, by repeat (first | exact HB.out | apply below_alloc | apply pw_below_drewN | apply below_drew1)⟩
def kidP (nodes : List S56) (kids : List Int) (ps : List (Int → Bool)) (j : Nat) : Bool := match kids[j]?, ps[j]? with
  | some x, some p => p (rd_T56 nodes x).f0
  | _, _ => false
def kidsP (nodes : List S56) (kids : List Int) (ps : List (Int → Bool)) : Bool := decide (kids.length = ps.length) && (List.range ps.length).all (kidP nodes kids ps)
theorem kidsOk_eq (nodes : List S56) (kids : List Int) (fs : List FT) : kidsOk nodes kids fs = kidsP nodes kids (fs.map FT.p) := by
  have h : kidOk nodes kids fs = kidP nodes kids (fs.map FT.p) := by
    funext j
    unfold kidOk kidP
    rw [List.getElem?_map]
    cases kids[j]? <;> cases fs[j]? <;> rfl
  unfold kidsOk kidsP
  rw [h, List.length_map]
structure NodeAt (w : World) (gt : Nat) (A : Option Addr) (c : Nat) (nodes : List S56) (B : Option Addr) (d : Nat) (tops : List Int) (K : Option Addr) (kids : List Int) : Prop where
  t : TreeAt w gt A c nodes B d tops
  k : Kd.C (Kd.int .i64) w K kids.length kids
  i : kidsIn nodes kids
theorem NodeAt.below {w w1 : World} {gt : Nat} {A : Option Addr} {c : Nat} {nodes : List S56} {B : Option Addr} {d : Nat} {tops : List Int} {K : Option Addr} {kids : List Int} (h : NodeAt w gt A c nodes B d tops K kids) (hb : Below w.heap.size w w1) : NodeAt w1 gt A c nodes B d tops K kids := ⟨h.t.below hb, Kd.C_below h.k hb, h.i⟩
section
variable {gt : Nat} {A : Option Addr} {c : Nat} {nodes : List S56} {B : Option Addr} {d : Nat} {tops : List Int} {K : Option Addr} {kc : Nat} {kids : List Int} {w0 w : World} {k : Int} {s : ByteArray} {v : Int}
theorem areB.calls (g : FuncId) (cap : Array Value) (p : Int → Bool) (hN : NodeAt w0 gt A c nodes B d tops K kids) (hb : Below w0.heap.size w0 w) (hv : FnV g cap p w) :
    Calls Try.prog 64 #[.pointer (some ⟨gt, 0, none⟩), .slice K kids.length kc, .func (.func g) #[] cap] w fun e w' => e = .returned (.bool (kids.all fun x => p (rd_T56 nodes x).f0)) ∧ Below w0.heap.size w0 w' :=
  (are207.calls g cap p gt A c nodes B d tops K kc kids w hv (hN.below hb).t (hN.below hb).k hN.i).mono fun _ _ h => ⟨h.1, below_step hb h.2⟩
theorem kids1.calls (b : Nat) (g1 : FuncId) (cap1 : Array Value) (p1 : Int → Bool) (hN : NodeAt w0 gt A c nodes B d tops K kids) (hb : Below w0.heap.size w0 w) (h1 : w.cell? ⟨b, 0, none⟩ = some (.func (.func g1) #[] cap1)) (v1 : FnV g1 cap1 p1 w) :
    Calls Try.prog 65 #[.pointer (some ⟨gt, 0, none⟩), .agg #[.int .i64 k, .string s, .int .i64 v, .slice K kids.length kc], .slice (some ⟨b, 0, none⟩) 1 1] w fun e w' => e = .returned (.bool (kidsP nodes kids [p1])) ∧ Below w0.heap.size w0 w' :=
  (kidsAre208.calls gt A c nodes B d tops k s v K kc kids (some ⟨b, 0, none⟩) 1 [⟨g1, cap1, p1⟩] w (hN.below hb).t (hN.below hb).k hN.i ⟨by simp, _, rfl, fun j t ht => by
    match j, ht with
    | 0, ht => cases ht; exact ⟨h1, v1⟩⟩).mono fun _ _ h => ⟨by rw [h.1, kidsOk_eq]; rfl, below_step hb h.2⟩
theorem kids2.calls (b : Nat) (g1 : FuncId) (cap1 : Array Value) (p1 : Int → Bool) (g2 : FuncId) (cap2 : Array Value) (p2 : Int → Bool) (hN : NodeAt w0 gt A c nodes B d tops K kids) (hb : Below w0.heap.size w0 w) (h1 : w.cell? ⟨b, 0, none⟩ = some (.func (.func g1) #[] cap1)) (h2 : w.cell? ⟨b, 1, none⟩ = some (.func (.func g2) #[] cap2)) (v1 : FnV g1 cap1 p1 w) (v2 : FnV g2 cap2 p2 w) :
    Calls Try.prog 65 #[.pointer (some ⟨gt, 0, none⟩), .agg #[.int .i64 k, .string s, .int .i64 v, .slice K kids.length kc], .slice (some ⟨b, 0, none⟩) 2 2] w fun e w' => e = .returned (.bool (kidsP nodes kids [p1, p2])) ∧ Below w0.heap.size w0 w' :=
  (kidsAre208.calls gt A c nodes B d tops k s v K kc kids (some ⟨b, 0, none⟩) 2 [⟨g1, cap1, p1⟩, ⟨g2, cap2, p2⟩] w (hN.below hb).t (hN.below hb).k hN.i ⟨by simp, _, rfl, fun j t ht => by
    match j, ht with
    | 0, ht => cases ht; exact ⟨h1, v1⟩
    | 1, ht => cases ht; exact ⟨h2, v2⟩⟩).mono fun _ _ h => ⟨by rw [h.1, kidsOk_eq]; rfl, below_step hb h.2⟩
theorem kids3.calls (b : Nat) (g1 : FuncId) (cap1 : Array Value) (p1 : Int → Bool) (g2 : FuncId) (cap2 : Array Value) (p2 : Int → Bool) (g3 : FuncId) (cap3 : Array Value) (p3 : Int → Bool) (hN : NodeAt w0 gt A c nodes B d tops K kids) (hb : Below w0.heap.size w0 w) (h1 : w.cell? ⟨b, 0, none⟩ = some (.func (.func g1) #[] cap1)) (h2 : w.cell? ⟨b, 1, none⟩ = some (.func (.func g2) #[] cap2)) (h3 : w.cell? ⟨b, 2, none⟩ = some (.func (.func g3) #[] cap3)) (v1 : FnV g1 cap1 p1 w) (v2 : FnV g2 cap2 p2 w) (v3 : FnV g3 cap3 p3 w) :
    Calls Try.prog 65 #[.pointer (some ⟨gt, 0, none⟩), .agg #[.int .i64 k, .string s, .int .i64 v, .slice K kids.length kc], .slice (some ⟨b, 0, none⟩) 3 3] w fun e w' => e = .returned (.bool (kidsP nodes kids [p1, p2, p3])) ∧ Below w0.heap.size w0 w' :=
  (kidsAre208.calls gt A c nodes B d tops k s v K kc kids (some ⟨b, 0, none⟩) 3 [⟨g1, cap1, p1⟩, ⟨g2, cap2, p2⟩, ⟨g3, cap3, p3⟩] w (hN.below hb).t (hN.below hb).k hN.i ⟨by simp, _, rfl, fun j t ht => by
    match j, ht with
    | 0, ht => cases ht; exact ⟨h1, v1⟩
    | 1, ht => cases ht; exact ⟨h2, v2⟩
    | 2, ht => cases ht; exact ⟨h3, v3⟩⟩).mono fun _ _ h => ⟨by rw [h.1, kidsOk_eq]; rfl, below_step hb h.2⟩
end
def exprOkB (nodes : List S56) (k : Int) (kids : List Int) : Bool :=
  if k ≤ 6 then decide (kids.length = 0)
  else if k = 7 then kids.all fun x => isExprV (rd_T56 nodes x).f0
  else if k = 9 then kidsP nodes kids [isExprV]
  else if k = 8 ∨ k = 10 then kidsP nodes kids [isExprV, isExprV]
  else decide (kids.length > 1) && isExprV (rd_T56 nodes (rd kids 0)).f0 && (kids.drop 1).all fun x => (rd_T56 nodes x).f0 == 31
set_option maxHeartbeats 8000000 in
set_option maxRecDepth 100000 in
theorem exprOkA.calls (gt : Nat) (A : Option Addr) (c : Nat) (nodes : List S56) (B : Option Addr) (d : Nat) (tops : List Int) (k : Int) (s : ByteArray) (v : Int) (K : Option Addr) (kc : Nat) (kids : List Int) (w : World) (hN : NodeAt w gt A c nodes B d tops K kids) (h1 : 1 ≤ k) (h2 : k ≤ 10) :
    Calls Try.prog 46 #[.pointer (some ⟨gt, 0, none⟩), .agg #[.int .i64 k, .string s, .int .i64 v, .slice K kids.length kc]] w fun e w' => e = .returned (.bool (exprOkB nodes k kids)) ∧ Below w.heap.size w w' := by
  have hu141 := Try.underlying56
  have HN := Aside0.mk hN
  clear hN
  have HB := Aside0.mk (Below.refl w.heap.size w)
  have hk : k = 1 ∨ k = 2 ∨ k = 3 ∨ k = 4 ∨ k = 5 ∨ k = 6 ∨ k = 7 ∨ k = 8 ∨ k = 9 ∨ k = 10 := by omega
  clear h1 h2
  rcases hk with rfl | rfl | rfl | rfl | rfl | rfl | rfl | rfl | rfl | rfl
  iterate 6
    · go_enter Try.func46, Try.ntmps46
      go_wp2
      go_ret
      exact ⟨by exact congrArg (fun b => Ending.returned (Value.bool b)) (by cases kids <;> first | rfl | simp [exprOkB]), by repeat (first | exact HB.out | apply below_alloc | apply pw_below_drewN | apply below_drew1)⟩
  · go_enter Try.func46, Try.ntmps46
    go_wp2_with (go_at_call 64; refine (areB.calls 45 #[] isExprV HN.out (by repeat (first | exact HB.out | apply below_alloc | apply pw_below_drewN | apply below_drew1)) (fnExpr _)).mono ?_; rintro e w1 ⟨rfl, hb⟩)
    go_ret
    exact ⟨rfl, hb⟩
  · go_enter Try.func46, Try.ntmps46
    go_wp2_with (go_at_call 65; refine (kids2.calls _ 45 #[] isExprV 45 #[] isExprV HN.out (by repeat (first | exact HB.out | apply below_alloc | apply pw_below_drewN | apply below_drew1)) (by simp) (by simp) (fnExpr _) (fnExpr _)).mono ?_; rintro e w1 ⟨rfl, hb⟩)
    go_ret
    exact ⟨rfl, hb⟩
  · go_enter Try.func46, Try.ntmps46
    go_wp2_with (go_at_call 65; refine (kids1.calls _ 45 #[] isExprV HN.out (by repeat (first | exact HB.out | apply below_alloc | apply pw_below_drewN | apply below_drew1)) (by simp) (fnExpr _)).mono ?_; rintro e w1 ⟨rfl, hb⟩)
    go_ret
    exact ⟨rfl, hb⟩
  · go_enter Try.func46, Try.ntmps46
    go_wp2_with (go_at_call 65; refine (kids2.calls _ 45 #[] isExprV 45 #[] isExprV HN.out (by repeat (first | exact HB.out | apply below_alloc | apply pw_below_drewN | apply below_drew1)) (by simp) (by simp) (fnExpr _) (fnExpr _)).mono ?_; rintro e w1 ⟨rfl, hb⟩)
    go_ret
    exact ⟨rfl, hb⟩
set_option maxHeartbeats 8000000 in
set_option maxRecDepth 100000 in
theorem exprOkP.calls (gt : Nat) (A : Option Addr) (c : Nat) (nodes : List S56) (B : Option Addr) (d : Nat) (tops : List Int) (s : ByteArray) (v : Int) (K : Option Addr) (kc : Nat) (kids : List Int) (w : World) (hN : NodeAt w gt A c nodes B d tops K kids) (hkc : kids.length ≤ kc) :
    Calls Try.prog 46 #[.pointer (some ⟨gt, 0, none⟩), .agg #[.int .i64 11, .string s, .int .i64 v, .slice K kids.length kc]] w fun e w' => e = .returned (.bool (exprOkB nodes 11 kids)) ∧ Below w.heap.size w w' := by
  have hu141 := Try.underlying56
  have HN := Aside0.mk hN
  clear hN
  have HKC := Aside0.mk hkc
  by_cases c1 : 1 < kids.length
  · have cb1 : decide ((1 : Int) < (kids.length : Int)) = true := decide_eq_true (by omega)
    obtain ⟨adK, ead, hx⟩ := Kd.at_int HN.out.k 0 (by omega) (by omega)
    cases ead
    have hm : rd kids 0 ∈ kids := by
      unfold rd
      rw [List.getD_eq_getElem?_getD, List.getElem?_eq_getElem (by show 0 < kids.length; omega)]
      exact List.getElem_mem _
    have hE : exprOkB nodes 11 kids = (isExprV (rd_T56 nodes (rd kids 0)).f0 && (kids.drop 1).all fun x => (rd_T56 nodes x).f0 == 31) := by
      show (decide (kids.length > 1) && isExprV (rd_T56 nodes (rd kids 0)).f0 && (kids.drop 1).all fun x => (rd_T56 nodes x).f0 == 31) = _
      rw [decide_eq_true c1, Bool.true_and]
    rw [hE]
    clear hE
    obtain ⟨p0, q0⟩ := HN.out.i _ hm
    generalize rd kids 0 = x at hx hm p0 q0 ⊢
    obtain ⟨nd, NA, nc, end_, hy, _⟩ := at_T56 HN.out.t.hn x p0 q0
    cases end_
    have hT0 : w.cell? ⟨gt, 0, none⟩ = some (.slice (some nd) nodes.length c) := (blk_cell HN.out.t.own 0).trans rfl
    generalize (rd_T56 nodes x).f0 = y at hy ⊢
    replace p0 := eq_true p0
    replace q0 := eq_true q0
    have HC1 := Aside0.mk c1
    clear hm hkc c1
    go_enter Try.func46, Try.ntmps46
    have hlt : gt < w.heap.size := World.block_lt_of_cell? w ⟨gt, 0, none⟩ hT0
    obtain ⟨i0, hi0, _, hsz, _⟩ := info_parts info3
    obtain ⟨A', hcut, hA, hC⟩ := print_drop_of (P := Try.prog) (Value.int .i64) 0 23 3 .i64 Try.underlying23 hi0 hsz (some adK) kc kids 1 (by omega) (by have := HC1.out; omega) HKC.out
    have HD : Aside0 (NodeAt w gt (some nd) c nodes B d tops A' (kids.drop 1)) := ⟨⟨HN.out.t, Kd.C_of_reads (h1 := fun _ => rfl) (hA _ (Kd.reads_of_C HN.out.k)), fun z hz => HN.out.i z (List.mem_of_mem_drop hz)⟩⟩
    clear hA hC hi0 hsz
    have hcA0 := fun (w3 W : World) (hb0 : Below w.heap.size w w3) (B6 : Nat) (hb : Below w3.heap.size w3 W) (hj : W.cell? ⟨B6, 0, none⟩ = some (.int .i64 31)) => areB.calls (kc := kc - 1) 85 #[.pointer (some ⟨B6, 0, none⟩)] (fun k => k == 31) (HD.out.below hb0) hb (fnJust W B6 31 hj)
    simp only [List.length_drop] at hcA0
    have HCA := Aside0.mk hcA0
    clear hcA0
    go_wp2
    have hb0 : Below w.heap.size w (w.alloc (.cells #[.int .i64 11, .string s, .int .i64 v, .slice (some adK) kids.length kc] 56)) := below_alloc (Below.refl _ _) _
    have hg0 : (w.alloc (.cells #[.int .i64 11, .string s, .int .i64 v, .slice (some adK) kids.length kc] 56)).cell? ⟨w.heap.size, 3, none⟩ = some (.slice (some adK) kids.length kc) := by simp
    generalize (w.alloc (.cells #[.int .i64 11, .string s, .int .i64 v, .slice (some adK) kids.length kc] 56)) = w3 at hb0 hg0 ⊢
    have hx : w.cell? adK = some (.int .i64 x) := hx
    have hS : ∀ w', Below w3.heap.size w3 w' → w'.cell? ⟨w.heap.size, 3, none⟩ = some (.slice (some adK) kids.length kc) ∧ w'.cell? ⟨gt, 0, none⟩ = some (.slice (some nd) nodes.length c) ∧ w'.cell? adK = some (.int .i64 x) ∧ w'.cell? (nd.add (x.toNat * 4)) = some (.int .i64 y) := fun w' h3 => ⟨pw_cell_below h3 hg0, pw_cell_below (below_step hb0 h3) hT0, pw_cell_below (below_step hb0 h3) hx, pw_cell_below (below_step hb0 h3) hy⟩
    have hcE : ∀ W : World, Calls Try.prog 45 #[.int .i64 y] W fun e w' => e = .returned (.bool (isExprV y)) ∧ ∃ q, w' = W.drewN q := fun (W : World) => (fnExpr W).2 W y (Below.refl _ _)
    have hcJ := fun (W : World) => just209.calls 31 W
    have hb3 : Below w3.heap.size w3 w3 := Below.refl _ _
    clear hx hy hT0 hg0
    have hk0 : 0 < kids.length := by have := HC1.out; omega
    have hk1 : 1 < kids.length := HC1.out
    cases hp : isExprV y with
    | false =>
      rw [hp] at hcE
      have HP := Aside0.mk hp
      clear hp
      obtain ⟨k0, k1, k2, k3⟩ := hS w3 hb3
      go_quiet ((go_at_call 45; refine (hcE _).mono ?_; rintro e w5 ⟨rfl, q5, rfl⟩; exact ⟨rfl, _, World.drewN_drewN _ _ _⟩))
      go_wp2
      go_ret
      exact ⟨by rw [HP.out]; rfl, by repeat (first | exact hb0 | apply pw_below_drewN | apply below_drew1 | apply below_alloc)⟩
    | true =>
      rw [hp] at hcE
      have HP := Aside0.mk hp
      clear hp
      have hcA := HCA.out w3
      go_region_held3 (fun w' => w'.cell? ⟨w.heap.size, 3, none⟩ = some (.slice (some adK) kids.length kc) ∧ w'.cell? ⟨gt, 0, none⟩ = some (.slice (some nd) nodes.length c) ∧ w'.cell? adK = some (.int .i64 x) ∧ w'.cell? (nd.add (x.toNat * 4)) = some (.int .i64 y)) (exact hS _ (by repeat (with_reducible first | exact hb3 | exact hb7 | apply pw_below_drewN | apply below_drew1 | refine below_step ?_ hb6)))
        (first | (go_at_call 45; (with_reducible refine (hcE _).mono ?_); rintro e w5 ⟨rfl, q5, rfl⟩) | (go_at_call 66; with_reducible refine (hcJ _).mono ?_; rintro e w6 ⟨B6, rfl, hj6, hb6⟩) | (go_at_call 64; (with_reducible refine (hcA _ hb0 B6 ?hh1 ?hh2).mono ?_); (case hh1 => repeat (with_reducible first | exact hb3 | apply pw_below_drewN | apply below_drew1 | refine below_step ?_ hb6)); (case hh2 => (with_reducible first | exact hj6 | exact pw_cell_below (pw_below_drewN (Below.refl _ _) _) hj6 | exact pw_cell_below (below_drew1 (Below.refl _ _)) hj6)); rintro e w7 ⟨rfl, hb7⟩))
      all_goals go_wp2
      all_goals go_ret
      all_goals exact ⟨by rw [HP.out]; exact congrArg (fun b => Ending.returned (Value.bool b)) (show (kids.tail.all fun x => (rd_T56 nodes x).f0 == 31) = (true && (kids.drop 1).all fun x => (rd_T56 nodes x).f0 == 31) by simp), below_step hb0 (by repeat (with_reducible first | exact hb3 | exact hb7 | apply pw_below_drewN | apply below_drew1 | apply below_alloc))⟩
  · have cb1 : decide ((1 : Int) < (kids.length : Int)) = false := decide_eq_false (by omega)
    have hE : exprOkB nodes 11 kids = false := by
      show (decide (kids.length > 1) && isExprV (rd_T56 nodes (rd kids 0)).f0 && (kids.drop 1).all fun x => (rd_T56 nodes x).f0 == 31) = _
      rw [decide_eq_false c1]
      rfl
    rw [hE]
    clear hE hkc
    go_enter Try.func46, Try.ntmps46
    go_wp2
    go_quiet (fail)
    go_wp2
    go_ret
    exact ⟨by first | rfl | simp, by repeat (first | exact Below.refl _ _ | apply pw_below_drewN | apply below_drew1 | apply below_alloc)⟩
def isK (n : Int) : Int → Bool := fun k => k == n
def statOkB (nodes : List S56) (k : Int) (kids : List Int) : Bool :=
  if k = 12 ∨ k = 13 ∨ k = 14 ∨ k = 15 ∨ k = 19 ∨ k = 23 ∨ k = 26 then kidsP nodes kids [isExprV]
  else if k = 16 then kidsP nodes kids [isExprV, isK 27] || kidsP nodes kids [isExprV, isK 27, isK 27]
  else if k = 17 then kidsP nodes kids [isExprV, isK 27]
  else if k = 18 then kidsP nodes kids [isK 29, isK 30, isK 27]
  else if k = 20 then kidsP nodes kids [isK 31, isK 27]
  else if k = 21 then kids.all fun x => isK 28 (rd_T56 nodes x).f0
  else if k = 25 then kidsP nodes kids [isK 7]
  else decide (kids.length = 0)
theorem bx0 (w : World) (k : Int) (s : ByteArray) (v : Int) (u : Value) : (w.alloc (.cells #[.int .i64 k, .string s, .int .i64 v, u] 56)).cell? ⟨w.heap.size, 0, none⟩ = some (.int .i64 k) := by simp
theorem bx1 (w : World) (k : Int) (s : ByteArray) (v : Int) (u : Value) : (w.alloc (.cells #[.int .i64 k, .string s, .int .i64 v, u] 56)).cell? ⟨w.heap.size, 1, none⟩ = some (.string s) := by simp
theorem bx2 (w : World) (k : Int) (s : ByteArray) (v : Int) (u : Value) : (w.alloc (.cells #[.int .i64 k, .string s, .int .i64 v, u] 56)).cell? ⟨w.heap.size, 2, none⟩ = some (.int .i64 v) := by simp
theorem bx3 (w : World) (k : Int) (s : ByteArray) (v : Int) (u : Value) : (w.alloc (.cells #[.int .i64 k, .string s, .int .i64 v, u] 56)).cell? ⟨w.heap.size, 3, none⟩ = some u := by simp
set_option maxHeartbeats 8000000 in
set_option maxRecDepth 100000 in
theorem statOkA.calls (gt : Nat) (A : Option Addr) (c : Nat) (nodes : List S56) (B : Option Addr) (d : Nat) (tops : List Int) (k : Int) (s : ByteArray) (v : Int) (K : Option Addr) (kc : Nat) (kids : List Int) (w : World) (hN : NodeAt w gt A c nodes B d tops K kids) (hk : k = 12 ∨ k = 13 ∨ k = 14 ∨ k = 15 ∨ k = 19 ∨ k = 23 ∨ k = 26 ∨ k = 22 ∨ k = 24 ∨ k = 17) :
    Calls Try.prog 48 #[.pointer (some ⟨gt, 0, none⟩), .agg #[.int .i64 k, .string s, .int .i64 v, .slice K kids.length kc]] w fun e w' => e = .returned (.bool (statOkB nodes k kids)) ∧ Below w.heap.size w w' := by
  have hu141 := Try.underlying56
  have HN := Aside0.mk hN
  clear hN
  have HB := Aside0.mk (Below.refl w.heap.size w)
  have hcJ := fun (W : World) => just209.calls 27 W
  rcases hk with rfl | rfl | rfl | rfl | rfl | rfl | rfl | rfl | rfl | rfl
  iterate 7
    · go_enter Try.func48, Try.ntmps48
      go_wp2_with (first | (go_at_call 66; with_reducible refine (hcJ _).mono ?_; rintro e w6 ⟨B6, rfl, hj6, hb6⟩; have hc0 := pw_cell_below hb6 (bx0 _ _ _ _ _); have hc1 := pw_cell_below hb6 (bx1 _ _ _ _ _); have hc2 := pw_cell_below hb6 (bx2 _ _ _ _ _); have hc3 := pw_cell_below hb6 (bx3 _ _ _ _ _); have HB6 := Aside0.mk (below_step (below_alloc (Below.refl w.heap.size w) _) hb6); have HV := Aside0.mk (fnJust w6 B6 27 hj6); clear hj6 hb6) | (go_at_call 65; refine (kids1.calls _ 45 #[] isExprV HN.out (by repeat (with_reducible first | exact HB6.out | apply below_alloc | apply pw_below_drewN | apply below_drew1)) (by simp) (fnExpr _)).mono ?_; rintro e w1 ⟨rfl, hb⟩))
      go_ret
      exact ⟨rfl, hb⟩
  iterate 2
    · go_enter Try.func48, Try.ntmps48
      go_wp2_with (first | (go_at_call 66; with_reducible refine (hcJ _).mono ?_; rintro e w6 ⟨B6, rfl, hj6, hb6⟩; have hc0 := pw_cell_below hb6 (bx0 _ _ _ _ _); have hc1 := pw_cell_below hb6 (bx1 _ _ _ _ _); have hc2 := pw_cell_below hb6 (bx2 _ _ _ _ _); have hc3 := pw_cell_below hb6 (bx3 _ _ _ _ _); have HB6 := Aside0.mk (below_step (below_alloc (Below.refl w.heap.size w) _) hb6); have HV := Aside0.mk (fnJust w6 B6 27 hj6); clear hj6 hb6))
      go_ret
      exact ⟨congrArg (fun b => Ending.returned (Value.bool b)) (by cases kids <;> first | rfl | simp [statOkB]), (by repeat (with_reducible first | exact HB6.out | apply below_alloc | apply pw_below_drewN | apply below_drew1))⟩
  · go_enter Try.func48, Try.ntmps48
    go_wp2_with (first | (go_at_call 66; with_reducible refine (hcJ _).mono ?_; rintro e w6 ⟨B6, rfl, hj6, hb6⟩; have hc0 := pw_cell_below hb6 (bx0 _ _ _ _ _); have hc1 := pw_cell_below hb6 (bx1 _ _ _ _ _); have hc2 := pw_cell_below hb6 (bx2 _ _ _ _ _); have hc3 := pw_cell_below hb6 (bx3 _ _ _ _ _); have HB6 := Aside0.mk (below_step (below_alloc (Below.refl w.heap.size w) _) hb6); have HV := Aside0.mk (fnJust w6 B6 27 hj6); clear hj6 hb6) | (go_at_call 65; refine (kids2.calls _ 45 #[] isExprV 85 _ (isK 27) HN.out (by repeat (with_reducible first | exact HB6.out | apply below_alloc | apply pw_below_drewN | apply below_drew1)) (by simp) (by simp) (fnExpr _) (HV.out.below (below_alloc (Below.refl _ _) _))).mono ?_; rintro e w1 ⟨rfl, hb⟩))
    go_ret
    exact ⟨rfl, hb⟩
set_option maxHeartbeats 8000000 in
set_option maxRecDepth 100000 in
theorem statOk25.calls (gt : Nat) (A : Option Addr) (c : Nat) (nodes : List S56) (B : Option Addr) (d : Nat) (tops : List Int) (s : ByteArray) (v : Int) (K : Option Addr) (kc : Nat) (kids : List Int) (w : World) (hN : NodeAt w gt A c nodes B d tops K kids) :
    Calls Try.prog 48 #[.pointer (some ⟨gt, 0, none⟩), .agg #[.int .i64 25, .string s, .int .i64 v, .slice K kids.length kc]] w fun e w' => e = .returned (.bool (statOkB nodes 25 kids)) ∧ Below w.heap.size w w' := by
  have hu141 := Try.underlying56
  have HN := Aside0.mk hN
  clear hN
  have hcJ := fun (W : World) => just209.calls 27 W
  have hcJ7 := fun (W : World) => just209.calls 7 W
  go_enter Try.func48, Try.ntmps48
  go_wp2_with (first | (go_at_call 66; with_reducible refine (hcJ _).mono ?_; rintro e w6 ⟨B6, rfl, hj6, hb6⟩; have hc0 := pw_cell_below hb6 (bx0 _ _ _ _ _); have hc1 := pw_cell_below hb6 (bx1 _ _ _ _ _); have hc2 := pw_cell_below hb6 (bx2 _ _ _ _ _); have hc3 := pw_cell_below hb6 (bx3 _ _ _ _ _); have HB6 := Aside0.mk (below_step (below_alloc (Below.refl w.heap.size w) _) hb6); have HV := Aside0.mk (fnJust w6 B6 27 hj6); clear hj6 hb6))
  have hS : ∀ w', Below w6.heap.size w6 w' → w'.cell? ⟨w.heap.size, 0, none⟩ = some (.int .i64 25) ∧ w'.cell? ⟨w.heap.size, 1, none⟩ = some (.string s) ∧ w'.cell? ⟨w.heap.size, 2, none⟩ = some (.int .i64 v) ∧ w'.cell? ⟨w.heap.size, 3, none⟩ = some (.slice K kids.length kc) := fun w' h => ⟨pw_cell_below h hc0, pw_cell_below h hc1, pw_cell_below h hc2, pw_cell_below h hc3⟩
  have HN6 := Aside0.mk (HN.out.below HB6.out)
  clear hcJ hc0 hc1 hc2 hc3
  go_region_held3 (fun w' => w'.cell? ⟨w.heap.size, 0, none⟩ = some (.int .i64 25) ∧ w'.cell? ⟨w.heap.size, 1, none⟩ = some (.string s) ∧ w'.cell? ⟨w.heap.size, 2, none⟩ = some (.int .i64 v) ∧ w'.cell? ⟨w.heap.size, 3, none⟩ = some (.slice K kids.length kc)) (exact hS _ (by repeat (with_reducible first | exact Below.refl _ _ | apply below_alloc | apply pw_below_drewN | apply below_drew1 | refine below_step ?_ hb7 | exact hb)))
    (first | (go_at_call 66; with_reducible refine (hcJ7 _).mono ?_; rintro e w7 ⟨B7, rfl, hj7, hb7⟩) | (go_at_call 65; refine (kids1.calls _ 85 _ (isK 7) HN6.out (by repeat (with_reducible first | exact Below.refl _ _ | apply below_alloc | apply pw_below_drewN | apply below_drew1 | refine below_step ?_ hb7)) (by simp) ((fnJust w7 B7 7 hj7).below (by repeat (with_reducible first | exact Below.refl _ _ | apply below_alloc | apply pw_below_drewN | apply below_drew1)))).mono ?_; rintro e w1 ⟨rfl, hb⟩))
  all_goals go_wp2
  all_goals go_ret
  all_goals exact ⟨rfl, below_step HB6.out hb⟩
set_option maxHeartbeats 8000000 in
set_option maxRecDepth 100000 in
theorem statOk21.calls (gt : Nat) (A : Option Addr) (c : Nat) (nodes : List S56) (B : Option Addr) (d : Nat) (tops : List Int) (s : ByteArray) (v : Int) (K : Option Addr) (kc : Nat) (kids : List Int) (w : World) (hN : NodeAt w gt A c nodes B d tops K kids) :
    Calls Try.prog 48 #[.pointer (some ⟨gt, 0, none⟩), .agg #[.int .i64 21, .string s, .int .i64 v, .slice K kids.length kc]] w fun e w' => e = .returned (.bool (statOkB nodes 21 kids)) ∧ Below w.heap.size w w' := by
  have hu141 := Try.underlying56
  have HN := Aside0.mk hN
  clear hN
  have hcJ := fun (W : World) => just209.calls 27 W
  have hcJ28 := fun (W : World) => just209.calls 28 W
  go_enter Try.func48, Try.ntmps48
  go_wp2_with (first | (go_at_call 66; with_reducible refine (hcJ _).mono ?_; rintro e w6 ⟨B6, rfl, hj6, hb6⟩; have hc0 := pw_cell_below hb6 (bx0 _ _ _ _ _); have hc1 := pw_cell_below hb6 (bx1 _ _ _ _ _); have hc2 := pw_cell_below hb6 (bx2 _ _ _ _ _); have hc3 := pw_cell_below hb6 (bx3 _ _ _ _ _); have HB6 := Aside0.mk (below_step (below_alloc (Below.refl w.heap.size w) _) hb6); have HV := Aside0.mk (fnJust w6 B6 27 hj6); clear hj6 hb6))
  have hS : ∀ w', Below w6.heap.size w6 w' → w'.cell? ⟨w.heap.size, 0, none⟩ = some (.int .i64 21) ∧ w'.cell? ⟨w.heap.size, 1, none⟩ = some (.string s) ∧ w'.cell? ⟨w.heap.size, 2, none⟩ = some (.int .i64 v) ∧ w'.cell? ⟨w.heap.size, 3, none⟩ = some (.slice K kids.length kc) := fun w' h => ⟨pw_cell_below h hc0, pw_cell_below h hc1, pw_cell_below h hc2, pw_cell_below h hc3⟩
  have HN6 := Aside0.mk (HN.out.below HB6.out)
  clear hcJ hc0 hc1 hc2 hc3
  go_region_held3 (fun w' => w'.cell? ⟨w.heap.size, 0, none⟩ = some (.int .i64 21) ∧ w'.cell? ⟨w.heap.size, 1, none⟩ = some (.string s) ∧ w'.cell? ⟨w.heap.size, 2, none⟩ = some (.int .i64 v) ∧ w'.cell? ⟨w.heap.size, 3, none⟩ = some (.slice K kids.length kc)) (exact hS _ (by repeat (with_reducible first | exact Below.refl _ _ | apply below_alloc | apply pw_below_drewN | apply below_drew1 | refine below_step ?_ hb7 | exact hb)))
    (first | (go_at_call 66; with_reducible refine (hcJ28 _).mono ?_; rintro e w7 ⟨B7, rfl, hj7, hb7⟩) | (go_at_call 64; refine (areB.calls 85 _ (isK 28) HN6.out (by repeat (with_reducible first | exact Below.refl _ _ | apply below_alloc | apply pw_below_drewN | apply below_drew1 | refine below_step ?_ hb7)) ((fnJust w7 B7 28 hj7).below (by repeat (with_reducible first | exact Below.refl _ _ | apply below_alloc | apply pw_below_drewN | apply below_drew1)))).mono ?_; rintro e w1 ⟨rfl, hb⟩))
  all_goals go_wp2
  all_goals go_ret
  all_goals exact ⟨rfl, below_step HB6.out hb⟩
set_option maxHeartbeats 8000000 in
set_option maxRecDepth 100000 in
theorem statOk20.calls (gt : Nat) (A : Option Addr) (c : Nat) (nodes : List S56) (B : Option Addr) (d : Nat) (tops : List Int) (s : ByteArray) (v : Int) (K : Option Addr) (kc : Nat) (kids : List Int) (w : World) (hN : NodeAt w gt A c nodes B d tops K kids) :
    Calls Try.prog 48 #[.pointer (some ⟨gt, 0, none⟩), .agg #[.int .i64 20, .string s, .int .i64 v, .slice K kids.length kc]] w fun e w' => e = .returned (.bool (statOkB nodes 20 kids)) ∧ Below w.heap.size w w' := by
  have hu141 := Try.underlying56
  have HN := Aside0.mk hN
  clear hN
  have hcJ := fun (W : World) => just209.calls 27 W
  have hcJ31 := fun (W : World) => just209.calls 31 W
  go_enter Try.func48, Try.ntmps48
  go_wp2_with (first | (go_at_call 66; with_reducible refine (hcJ _).mono ?_; rintro e w6 ⟨B6, rfl, hj6, hb6⟩; have hc0 := pw_cell_below hb6 (bx0 _ _ _ _ _); have hc1 := pw_cell_below hb6 (bx1 _ _ _ _ _); have hc2 := pw_cell_below hb6 (bx2 _ _ _ _ _); have hc3 := pw_cell_below hb6 (bx3 _ _ _ _ _); have HB6 := Aside0.mk (below_step (below_alloc (Below.refl w.heap.size w) _) hb6); have HV := Aside0.mk (fnJust w6 B6 27 hj6); clear hj6 hb6))
  have hS : ∀ w', Below w6.heap.size w6 w' → w'.cell? ⟨w.heap.size, 0, none⟩ = some (.int .i64 20) ∧ w'.cell? ⟨w.heap.size, 1, none⟩ = some (.string s) ∧ w'.cell? ⟨w.heap.size, 2, none⟩ = some (.int .i64 v) ∧ w'.cell? ⟨w.heap.size, 3, none⟩ = some (.slice K kids.length kc) := fun w' h => ⟨pw_cell_below h hc0, pw_cell_below h hc1, pw_cell_below h hc2, pw_cell_below h hc3⟩
  have HN6 := Aside0.mk (HN.out.below HB6.out)
  clear hcJ hc0 hc1 hc2 hc3
  go_region_held3 (fun w' => w'.cell? ⟨w.heap.size, 0, none⟩ = some (.int .i64 20) ∧ w'.cell? ⟨w.heap.size, 1, none⟩ = some (.string s) ∧ w'.cell? ⟨w.heap.size, 2, none⟩ = some (.int .i64 v) ∧ w'.cell? ⟨w.heap.size, 3, none⟩ = some (.slice K kids.length kc)) (exact hS _ (by repeat (with_reducible first | exact Below.refl _ _ | apply below_alloc | apply pw_below_drewN | apply below_drew1 | refine below_step ?_ hb7 | exact hb)))
    (first | (go_at_call 66; with_reducible refine (hcJ31 _).mono ?_; rintro e w7 ⟨B7, rfl, hj7, hb7⟩) | (go_at_call 65; refine (kids2.calls _ 85 _ (isK 31) 85 _ (isK 27) HN6.out (by repeat (with_reducible first | exact Below.refl _ _ | apply below_alloc | apply pw_below_drewN | apply below_drew1 | refine below_step ?_ hb7)) (by simp) (by simp) ((fnJust w7 B7 31 hj7).below (by repeat (with_reducible first | exact Below.refl _ _ | apply below_alloc | apply pw_below_drewN | apply below_drew1))) (HV.out.below (by repeat (with_reducible first | exact Below.refl _ _ | apply below_alloc | apply pw_below_drewN | apply below_drew1 | refine below_step ?_ hb7)))).mono ?_; rintro e w1 ⟨rfl, hb⟩))
  all_goals go_wp2
  all_goals go_ret
  all_goals exact ⟨rfl, below_step HB6.out hb⟩
set_option maxHeartbeats 8000000 in
set_option maxRecDepth 100000 in
theorem statOk18.calls (gt : Nat) (A : Option Addr) (c : Nat) (nodes : List S56) (B : Option Addr) (d : Nat) (tops : List Int) (s : ByteArray) (v : Int) (K : Option Addr) (kc : Nat) (kids : List Int) (w : World) (hN : NodeAt w gt A c nodes B d tops K kids) :
    Calls Try.prog 48 #[.pointer (some ⟨gt, 0, none⟩), .agg #[.int .i64 18, .string s, .int .i64 v, .slice K kids.length kc]] w fun e w' => e = .returned (.bool (statOkB nodes 18 kids)) ∧ Below w.heap.size w w' := by
  have hu141 := Try.underlying56
  have HN := Aside0.mk hN
  clear hN
  have hcJ := fun (W : World) => just209.calls 27 W
  have hcJ29 := fun (W : World) => just209.calls 29 W
  have hcJ30 := fun (W : World) => just209.calls 30 W
  go_enter Try.func48, Try.ntmps48
  go_wp2_with (first | (go_at_call 66; with_reducible refine (hcJ _).mono ?_; rintro e w6 ⟨B6, rfl, hj6, hb6⟩; have hc0 := pw_cell_below hb6 (bx0 _ _ _ _ _); have hc1 := pw_cell_below hb6 (bx1 _ _ _ _ _); have hc2 := pw_cell_below hb6 (bx2 _ _ _ _ _); have hc3 := pw_cell_below hb6 (bx3 _ _ _ _ _); have HB6 := Aside0.mk (below_step (below_alloc (Below.refl w.heap.size w) _) hb6); have HV := Aside0.mk (fnJust w6 B6 27 hj6); clear hj6 hb6))
  have hS : ∀ w', Below w6.heap.size w6 w' → w'.cell? ⟨w.heap.size, 0, none⟩ = some (.int .i64 18) ∧ w'.cell? ⟨w.heap.size, 1, none⟩ = some (.string s) ∧ w'.cell? ⟨w.heap.size, 2, none⟩ = some (.int .i64 v) ∧ w'.cell? ⟨w.heap.size, 3, none⟩ = some (.slice K kids.length kc) := fun w' h => ⟨pw_cell_below h hc0, pw_cell_below h hc1, pw_cell_below h hc2, pw_cell_below h hc3⟩
  have HN6 := Aside0.mk (HN.out.below HB6.out)
  clear hcJ hc0 hc1 hc2 hc3
  go_region_held3 (fun w' => w'.cell? ⟨w.heap.size, 0, none⟩ = some (.int .i64 18) ∧ w'.cell? ⟨w.heap.size, 1, none⟩ = some (.string s) ∧ w'.cell? ⟨w.heap.size, 2, none⟩ = some (.int .i64 v) ∧ w'.cell? ⟨w.heap.size, 3, none⟩ = some (.slice K kids.length kc)) (exact hS _ (by repeat (with_reducible first | exact Below.refl _ _ | apply below_alloc | apply pw_below_drewN | apply below_drew1 | refine below_step ?_ hb7 | refine below_step ?_ hb8 | exact hb)))
    (first | (go_at_call 66; with_reducible refine (hcJ29 _).mono ?_; rintro e w7 ⟨B7, rfl, hj7, hb7⟩) | (go_at_call 66; with_reducible refine (hcJ30 _).mono ?_; rintro e w8 ⟨B8, rfl, hj8, hb8⟩) | (go_at_call 65; refine (kids3.calls _ 85 _ (isK 29) 85 _ (isK 30) 85 _ (isK 27) HN6.out (by repeat (with_reducible first | exact Below.refl _ _ | apply below_alloc | apply pw_below_drewN | apply below_drew1 | refine below_step ?_ hb7 | refine below_step ?_ hb8)) (by simp) (by simp) (by simp) ((fnJust w7 B7 29 hj7).below (by repeat (with_reducible first | exact Below.refl _ _ | apply below_alloc | apply pw_below_drewN | apply below_drew1 | refine below_step ?_ hb8))) ((fnJust w8 B8 30 hj8).below (by repeat (with_reducible first | exact Below.refl _ _ | apply below_alloc | apply pw_below_drewN | apply below_drew1))) (HV.out.below (by repeat (with_reducible first | exact Below.refl _ _ | apply below_alloc | apply pw_below_drewN | apply below_drew1 | refine below_step ?_ hb7 | refine below_step ?_ hb8)))).mono ?_; rintro e w1 ⟨rfl, hb⟩))
  all_goals go_wp2
  all_goals go_ret
  all_goals exact ⟨rfl, below_step HB6.out hb⟩
set_option maxHeartbeats 8000000 in
set_option maxRecDepth 100000 in
theorem statOk16.calls (gt : Nat) (A : Option Addr) (c : Nat) (nodes : List S56) (B : Option Addr) (d : Nat) (tops : List Int) (s : ByteArray) (v : Int) (K : Option Addr) (kc : Nat) (kids : List Int) (w : World) (hN : NodeAt w gt A c nodes B d tops K kids) :
    Calls Try.prog 48 #[.pointer (some ⟨gt, 0, none⟩), .agg #[.int .i64 16, .string s, .int .i64 v, .slice K kids.length kc]] w fun e w' => e = .returned (.bool (statOkB nodes 16 kids)) ∧ Below w.heap.size w w' := by
  have hu141 := Try.underlying56
  have HN := Aside0.mk hN
  clear hN
  have hcJ := fun (W : World) => just209.calls 27 W
  have hE : statOkB nodes 16 kids = (kidsP nodes kids [isExprV, isK 27] || kidsP nodes kids [isExprV, isK 27, isK 27]) := rfl
  rw [hE]
  clear hE
  cases hp : kidsP nodes kids [isExprV, isK 27] with
  | true =>
    have HP := Aside0.mk hp
    clear hp
    go_enter Try.func48, Try.ntmps48
    go_wp2_with (first | (go_at_call 66; with_reducible refine (hcJ _).mono ?_; rintro e w6 ⟨B6, rfl, hj6, hb6⟩; have hc0 := pw_cell_below hb6 (bx0 _ _ _ _ _); have hc1 := pw_cell_below hb6 (bx1 _ _ _ _ _); have hc2 := pw_cell_below hb6 (bx2 _ _ _ _ _); have hc3 := pw_cell_below hb6 (bx3 _ _ _ _ _); have HB6 := Aside0.mk (below_step (below_alloc (Below.refl w.heap.size w) _) hb6); have HV := Aside0.mk (fnJust w6 B6 27 hj6); clear hj6 hb6) | (go_at_call 65; refine (kids2.calls _ 45 #[] isExprV 85 _ (isK 27) HN.out (by repeat (with_reducible first | exact HB6.out | apply below_alloc | apply pw_below_drewN | apply below_drew1)) (by simp) (by simp) (fnExpr _) (HV.out.below (below_alloc (Below.refl _ _) _))).mono ?_; rintro e w1 ⟨he, hb⟩; rw [HP.out] at he; subst he))
    go_ret
    exact ⟨rfl, hb⟩
  | false =>
    have HP := Aside0.mk hp
    clear hp
    go_enter Try.func48, Try.ntmps48
    go_wp2_with (first | (go_at_call 66; with_reducible refine (hcJ _).mono ?_; rintro e w6 ⟨B6, rfl, hj6, hb6⟩; have hc0 := pw_cell_below hb6 (bx0 _ _ _ _ _); have hc1 := pw_cell_below hb6 (bx1 _ _ _ _ _); have hc2 := pw_cell_below hb6 (bx2 _ _ _ _ _); have hc3 := pw_cell_below hb6 (bx3 _ _ _ _ _); have HB6 := Aside0.mk (below_step (below_alloc (Below.refl w.heap.size w) _) hb6); have HV := Aside0.mk (fnJust w6 B6 27 hj6); clear hj6 hb6) | (go_at_call 65; have hq := HP.out; clear HP; refine (kids2.calls _ 45 #[] isExprV 85 #[.pointer (some ⟨B6, 0, none⟩)] (isK 27) (HN.out.below HB6.out) (below_alloc (Below.refl _ _) _) (by simp) (by simp) (fnExpr _) (HV.out.below (below_alloc (Below.refl _ _) _))).mono ?_; rintro e w1 ⟨he, hb⟩; rw [hq] at he; subst he; clear hq; have d0 := pw_cell_below hb hc0; have d1 := pw_cell_below hb hc1; have d2 := pw_cell_below hb hc2; have d3 := pw_cell_below hb hc3) | (go_at_call 65; refine (kids3.calls _ 45 #[] isExprV 85 #[.pointer (some ⟨B6, 0, none⟩)] (isK 27) 85 #[.pointer (some ⟨B6, 0, none⟩)] (isK 27) (HN.out.below HB6.out) (below_alloc hb _) (by simp) (by simp) (by simp) (fnExpr _) (HV.out.below (below_alloc hb _)) (HV.out.below (below_alloc hb _))).mono ?_; rintro e w2 ⟨rfl, hb2⟩))
    go_ret
    exact ⟨by first | rfl | (rw [Bool.false_or]; rfl), below_step HB6.out hb2⟩
def otherOkB (nodes : List S56) (k : Int) (kids : List Int) : Bool :=
  if k = 27 then kids.all fun x => isStatV (rd_T56 nodes x).f0
  else if k = 28 then kidsP nodes kids [isExprV]
  else if k = 29 then decide (kids.length > 0) && kids.all fun x => isK 31 (rd_T56 nodes x).f0
  else if k = 30 then kids.all fun x => isK 31 (rd_T56 nodes x).f0
  else if k = 31 ∨ k = 32 then decide (kids.length = 0)
  else if k = 33 then decide (kids.length > 0) && (kids.dropLast.all fun x => isK 32 (rd_T56 nodes x).f0) && isK 27 (rd_T56 nodes (kids.getLastD 0)).f0
  else if k = 34 then kidsP nodes kids [isK 27]
  else false
set_option maxHeartbeats 8000000 in
set_option maxRecDepth 100000 in
theorem otherOk27.calls (gt : Nat) (A : Option Addr) (c : Nat) (nodes : List S56) (B : Option Addr) (d : Nat) (tops : List Int) (s : ByteArray) (v : Int) (K : Option Addr) (kc : Nat) (kids : List Int) (w : World) (hN : NodeAt w gt A c nodes B d tops K kids) :
    Calls Try.prog 49 #[.pointer (some ⟨gt, 0, none⟩), .agg #[.int .i64 27, .string s, .int .i64 v, .slice K kids.length kc]] w fun e w' => e = .returned (.bool (otherOkB nodes 27 kids)) ∧ Below w.heap.size w w' := by
  have hu141 := Try.underlying56
  have HN := Aside0.mk hN
  clear hN
  have HB := Aside0.mk (Below.refl w.heap.size w)
  go_enter Try.func49, Try.ntmps49
  go_wp2_with (go_at_call 64; refine (areB.calls 47 #[] isStatV HN.out (by repeat (first | exact HB.out | apply below_alloc | apply pw_below_drewN | apply below_drew1)) (fnStat _)).mono ?_; rintro e w1 ⟨rfl, hb⟩)
  go_ret
  exact ⟨rfl, hb⟩
set_option maxHeartbeats 8000000 in
set_option maxRecDepth 100000 in
theorem otherOk28.calls (gt : Nat) (A : Option Addr) (c : Nat) (nodes : List S56) (B : Option Addr) (d : Nat) (tops : List Int) (s : ByteArray) (v : Int) (K : Option Addr) (kc : Nat) (kids : List Int) (w : World) (hN : NodeAt w gt A c nodes B d tops K kids) :
    Calls Try.prog 49 #[.pointer (some ⟨gt, 0, none⟩), .agg #[.int .i64 28, .string s, .int .i64 v, .slice K kids.length kc]] w fun e w' => e = .returned (.bool (otherOkB nodes 28 kids)) ∧ Below w.heap.size w w' := by
  have hu141 := Try.underlying56
  have HN := Aside0.mk hN
  clear hN
  have HB := Aside0.mk (Below.refl w.heap.size w)
  go_enter Try.func49, Try.ntmps49
  go_wp2_with (go_at_call 65; refine (kids1.calls _ 45 #[] isExprV HN.out (by repeat (first | exact HB.out | apply below_alloc | apply pw_below_drewN | apply below_drew1)) (by simp) (fnExpr _)).mono ?_; rintro e w1 ⟨rfl, hb⟩)
  go_ret
  exact ⟨rfl, hb⟩
set_option maxHeartbeats 8000000 in
set_option maxRecDepth 100000 in
theorem otherOk31.calls (gt : Nat) (A : Option Addr) (c : Nat) (nodes : List S56) (B : Option Addr) (d : Nat) (tops : List Int) (s : ByteArray) (v : Int) (K : Option Addr) (kc : Nat) (kids : List Int) (w : World) (hN : NodeAt w gt A c nodes B d tops K kids) :
    Calls Try.prog 49 #[.pointer (some ⟨gt, 0, none⟩), .agg #[.int .i64 31, .string s, .int .i64 v, .slice K kids.length kc]] w fun e w' => e = .returned (.bool (otherOkB nodes 31 kids)) ∧ Below w.heap.size w w' := by
  have hu141 := Try.underlying56
  have HN := Aside0.mk hN
  clear hN
  have HB := Aside0.mk (Below.refl w.heap.size w)
  go_enter Try.func49, Try.ntmps49
  go_wp2
  go_ret
  exact ⟨by exact congrArg (fun b => Ending.returned (Value.bool b)) (by cases kids <;> first | rfl | simp [otherOkB]), by repeat (first | exact HB.out | apply below_alloc | apply pw_below_drewN | apply below_drew1)⟩
set_option maxHeartbeats 8000000 in
set_option maxRecDepth 100000 in
theorem otherOk32.calls (gt : Nat) (A : Option Addr) (c : Nat) (nodes : List S56) (B : Option Addr) (d : Nat) (tops : List Int) (s : ByteArray) (v : Int) (K : Option Addr) (kc : Nat) (kids : List Int) (w : World) (hN : NodeAt w gt A c nodes B d tops K kids) :
    Calls Try.prog 49 #[.pointer (some ⟨gt, 0, none⟩), .agg #[.int .i64 32, .string s, .int .i64 v, .slice K kids.length kc]] w fun e w' => e = .returned (.bool (otherOkB nodes 32 kids)) ∧ Below w.heap.size w w' := by
  have hu141 := Try.underlying56
  have HN := Aside0.mk hN
  clear hN
  have HB := Aside0.mk (Below.refl w.heap.size w)
  go_enter Try.func49, Try.ntmps49
  go_wp2
  go_ret
  exact ⟨by exact congrArg (fun b => Ending.returned (Value.bool b)) (by cases kids <;> first | rfl | simp [otherOkB]), by repeat (first | exact HB.out | apply below_alloc | apply pw_below_drewN | apply below_drew1)⟩
set_option maxHeartbeats 8000000 in
set_option maxRecDepth 100000 in
theorem otherOk34.calls (gt : Nat) (A : Option Addr) (c : Nat) (nodes : List S56) (B : Option Addr) (d : Nat) (tops : List Int) (s : ByteArray) (v : Int) (K : Option Addr) (kc : Nat) (kids : List Int) (w : World) (hN : NodeAt w gt A c nodes B d tops K kids) :
    Calls Try.prog 49 #[.pointer (some ⟨gt, 0, none⟩), .agg #[.int .i64 34, .string s, .int .i64 v, .slice K kids.length kc]] w fun e w' => e = .returned (.bool (otherOkB nodes 34 kids)) ∧ Below w.heap.size w w' := by
  have hu141 := Try.underlying56
  have HN := Aside0.mk hN
  clear hN
  have HB := Aside0.mk (Below.refl w.heap.size w)
  go_enter Try.func49, Try.ntmps49
  go_wp2
  have hb0 : Below w.heap.size w (w.alloc (.cells #[.int .i64 34, .string s, .int .i64 v, .slice K kids.length kc] 56)) := below_alloc (Below.refl _ _) _
  have hc0 := bx0 w 34 s v (.slice K kids.length kc)
  have hc1 := bx1 w 34 s v (.slice K kids.length kc)
  have hc2 := bx2 w 34 s v (.slice K kids.length kc)
  have hc3 := bx3 w 34 s v (.slice K kids.length kc)
  generalize (w.alloc (.cells #[.int .i64 34, .string s, .int .i64 v, .slice K kids.length kc] 56)) = w6 at hb0 hc0 hc1 hc2 hc3 ⊢
  have hS : ∀ w', Below w6.heap.size w6 w' → w'.cell? ⟨w.heap.size, 0, none⟩ = some (.int .i64 34) ∧ w'.cell? ⟨w.heap.size, 1, none⟩ = some (.string s) ∧ w'.cell? ⟨w.heap.size, 2, none⟩ = some (.int .i64 v) ∧ w'.cell? ⟨w.heap.size, 3, none⟩ = some (.slice K kids.length kc) := fun w' h => ⟨pw_cell_below h hc0, pw_cell_below h hc1, pw_cell_below h hc2, pw_cell_below h hc3⟩
  have HB6 := Aside0.mk hb0
  have HN6 := Aside0.mk (HN.out.below hb0)
  clear hc0 hc1 hc2 hc3 hb0 HN
  have hcJ := fun (W : World) => just209.calls 27 W
  go_region_held3 (fun w' => w'.cell? ⟨w.heap.size, 0, none⟩ = some (.int .i64 34) ∧ w'.cell? ⟨w.heap.size, 1, none⟩ = some (.string s) ∧ w'.cell? ⟨w.heap.size, 2, none⟩ = some (.int .i64 v) ∧ w'.cell? ⟨w.heap.size, 3, none⟩ = some (.slice K kids.length kc)) (exact hS _ (by repeat (with_reducible first | exact Below.refl _ _ | apply below_alloc | apply pw_below_drewN | apply below_drew1 | refine below_step ?_ hb7 | exact hb)))
    (first | (go_at_call 66; with_reducible refine (hcJ _).mono ?_; rintro e w7 ⟨B7, rfl, hj7, hb7⟩) | (go_at_call 65; refine (kids1.calls _ 85 _ (isK 27) HN6.out (by repeat (with_reducible first | exact Below.refl _ _ | apply below_alloc | apply pw_below_drewN | apply below_drew1 | refine below_step ?_ hb7)) (by simp) ((fnJust w7 B7 27 hj7).below (by repeat (with_reducible first | exact Below.refl _ _ | apply below_alloc | apply pw_below_drewN | apply below_drew1)))).mono ?_; rintro e w1 ⟨rfl, hb⟩))
  all_goals go_wp2
  all_goals go_ret
  all_goals exact ⟨rfl, below_step HB6.out hb⟩
set_option maxHeartbeats 8000000 in
set_option maxRecDepth 100000 in
theorem otherOk30.calls (gt : Nat) (A : Option Addr) (c : Nat) (nodes : List S56) (B : Option Addr) (d : Nat) (tops : List Int) (s : ByteArray) (v : Int) (K : Option Addr) (kc : Nat) (kids : List Int) (w : World) (hN : NodeAt w gt A c nodes B d tops K kids) :
    Calls Try.prog 49 #[.pointer (some ⟨gt, 0, none⟩), .agg #[.int .i64 30, .string s, .int .i64 v, .slice K kids.length kc]] w fun e w' => e = .returned (.bool (otherOkB nodes 30 kids)) ∧ Below w.heap.size w w' := by
  have hu141 := Try.underlying56
  have HN := Aside0.mk hN
  clear hN
  have HB := Aside0.mk (Below.refl w.heap.size w)
  go_enter Try.func49, Try.ntmps49
  go_wp2
  have hb0 : Below w.heap.size w (w.alloc (.cells #[.int .i64 30, .string s, .int .i64 v, .slice K kids.length kc] 56)) := below_alloc (Below.refl _ _) _
  have hc0 := bx0 w 30 s v (.slice K kids.length kc)
  have hc1 := bx1 w 30 s v (.slice K kids.length kc)
  have hc2 := bx2 w 30 s v (.slice K kids.length kc)
  have hc3 := bx3 w 30 s v (.slice K kids.length kc)
  generalize (w.alloc (.cells #[.int .i64 30, .string s, .int .i64 v, .slice K kids.length kc] 56)) = w6 at hb0 hc0 hc1 hc2 hc3 ⊢
  have hS : ∀ w', Below w6.heap.size w6 w' → w'.cell? ⟨w.heap.size, 0, none⟩ = some (.int .i64 30) ∧ w'.cell? ⟨w.heap.size, 1, none⟩ = some (.string s) ∧ w'.cell? ⟨w.heap.size, 2, none⟩ = some (.int .i64 v) ∧ w'.cell? ⟨w.heap.size, 3, none⟩ = some (.slice K kids.length kc) := fun w' h => ⟨pw_cell_below h hc0, pw_cell_below h hc1, pw_cell_below h hc2, pw_cell_below h hc3⟩
  have HB6 := Aside0.mk hb0
  have HN6 := Aside0.mk (HN.out.below hb0)
  clear hc0 hc1 hc2 hc3 hb0 HN
  have hcJ := fun (W : World) => just209.calls 31 W
  go_region_held3 (fun w' => w'.cell? ⟨w.heap.size, 0, none⟩ = some (.int .i64 30) ∧ w'.cell? ⟨w.heap.size, 1, none⟩ = some (.string s) ∧ w'.cell? ⟨w.heap.size, 2, none⟩ = some (.int .i64 v) ∧ w'.cell? ⟨w.heap.size, 3, none⟩ = some (.slice K kids.length kc)) (exact hS _ (by repeat (with_reducible first | exact Below.refl _ _ | apply below_alloc | apply pw_below_drewN | apply below_drew1 | refine below_step ?_ hb7 | exact hb)))
    (first | (go_at_call 66; with_reducible refine (hcJ _).mono ?_; rintro e w7 ⟨B7, rfl, hj7, hb7⟩) | (go_at_call 64; refine (areB.calls 85 _ (isK 31) HN6.out (by repeat (with_reducible first | exact Below.refl _ _ | apply below_alloc | apply pw_below_drewN | apply below_drew1 | refine below_step ?_ hb7)) ((fnJust w7 B7 31 hj7).below (by repeat (with_reducible first | exact Below.refl _ _ | apply below_alloc | apply pw_below_drewN | apply below_drew1)))).mono ?_; rintro e w1 ⟨rfl, hb⟩))
  all_goals go_wp2
  all_goals go_ret
  all_goals exact ⟨rfl, below_step HB6.out hb⟩
set_option maxHeartbeats 8000000 in
set_option maxRecDepth 100000 in
theorem otherOk29.calls (gt : Nat) (A : Option Addr) (c : Nat) (nodes : List S56) (B : Option Addr) (d : Nat) (tops : List Int) (s : ByteArray) (v : Int) (K : Option Addr) (kc : Nat) (kids : List Int) (w : World) (hN : NodeAt w gt A c nodes B d tops K kids) :
    Calls Try.prog 49 #[.pointer (some ⟨gt, 0, none⟩), .agg #[.int .i64 29, .string s, .int .i64 v, .slice K kids.length kc]] w fun e w' => e = .returned (.bool (otherOkB nodes 29 kids)) ∧ Below w.heap.size w w' := by
  have hu141 := Try.underlying56
  have HN := Aside0.mk hN
  clear hN
  have HB := Aside0.mk (Below.refl w.heap.size w)
  by_cases cn : kids.length = 0
  · obtain rfl : kids = [] := List.eq_nil_of_length_eq_zero cn
    go_enter Try.func49, Try.ntmps49
    go_wp2
    go_quiet (fail)
    go_wp2
    go_ret
    exact ⟨rfl, by repeat (first | exact HB.out | apply pw_below_drewN | apply below_drew1 | apply below_alloc)⟩
  have cb : decide ((0 : Int) < (kids.length : Int)) = true := decide_eq_true (by omega)
  have cp : 0 < kids.length := by omega
  have CN := Aside0.mk cn
  clear cn
  go_enter Try.func49, Try.ntmps49
  go_wp2
  have hb0 : Below w.heap.size w (w.alloc (.cells #[.int .i64 29, .string s, .int .i64 v, .slice K kids.length kc] 56)) := below_alloc (Below.refl _ _) _
  have hc0 := bx0 w 29 s v (.slice K kids.length kc)
  have hc1 := bx1 w 29 s v (.slice K kids.length kc)
  have hc2 := bx2 w 29 s v (.slice K kids.length kc)
  have hc3 := bx3 w 29 s v (.slice K kids.length kc)
  generalize (w.alloc (.cells #[.int .i64 29, .string s, .int .i64 v, .slice K kids.length kc] 56)) = w6 at hb0 hc0 hc1 hc2 hc3 ⊢
  have hS : ∀ w', Below w6.heap.size w6 w' → w'.cell? ⟨w.heap.size, 0, none⟩ = some (.int .i64 29) ∧ w'.cell? ⟨w.heap.size, 1, none⟩ = some (.string s) ∧ w'.cell? ⟨w.heap.size, 2, none⟩ = some (.int .i64 v) ∧ w'.cell? ⟨w.heap.size, 3, none⟩ = some (.slice K kids.length kc) := fun w' h => ⟨pw_cell_below h hc0, pw_cell_below h hc1, pw_cell_below h hc2, pw_cell_below h hc3⟩
  have HB6 := Aside0.mk hb0
  have HN6 := Aside0.mk (HN.out.below hb0)
  clear hc0 hc1 hc2 hc3 hb0 HN
  have hcJ := fun (W : World) => just209.calls 31 W
  go_region_held3 (fun w' => w'.cell? ⟨w.heap.size, 0, none⟩ = some (.int .i64 29) ∧ w'.cell? ⟨w.heap.size, 1, none⟩ = some (.string s) ∧ w'.cell? ⟨w.heap.size, 2, none⟩ = some (.int .i64 v) ∧ w'.cell? ⟨w.heap.size, 3, none⟩ = some (.slice K kids.length kc)) (exact hS _ (by repeat (with_reducible first | exact Below.refl _ _ | apply below_alloc | apply pw_below_drewN | apply below_drew1 | refine below_step ?_ hb7 | exact hb)))
    (first | (go_at_call 66; with_reducible refine (hcJ _).mono ?_; rintro e w7 ⟨B7, rfl, hj7, hb7⟩) | (go_at_call 64; refine (areB.calls 85 _ (isK 31) HN6.out (by repeat (with_reducible first | exact Below.refl _ _ | apply below_alloc | apply pw_below_drewN | apply below_drew1 | refine below_step ?_ hb7)) ((fnJust w7 B7 31 hj7).below (by repeat (with_reducible first | exact Below.refl _ _ | apply below_alloc | apply pw_below_drewN | apply below_drew1)))).mono ?_; rintro e w1 ⟨rfl, hb⟩))
  all_goals go_wp2
  all_goals go_ret
  all_goals exact ⟨by rw [show otherOkB nodes 29 kids = (decide (kids.length > 0) && kids.all fun x => isK 31 (rd_T56 nodes x).f0) from rfl, decide_eq_true (by omega : kids.length > 0)]; rfl, below_step HB6.out hb⟩
set_option maxHeartbeats 8000000 in
set_option maxRecDepth 100000 in
theorem otherOkN.calls (gt : Nat) (A : Option Addr) (c : Nat) (nodes : List S56) (B : Option Addr) (d : Nat) (tops : List Int) (k : Int) (s : ByteArray) (v : Int) (K : Option Addr) (kc : Nat) (kids : List Int) (w : World) (hk : k < 27 ∨ 34 < k) :
    Calls Try.prog 49 #[.pointer (some ⟨gt, 0, none⟩), .agg #[.int .i64 k, .string s, .int .i64 v, .slice K kids.length kc]] w fun e w' => e = .returned (.bool (otherOkB nodes k kids)) ∧ Below w.heap.size w w' := by
  have hu141 := Try.underlying56
  have HB := Aside0.mk (Below.refl w.heap.size w)
  have hf : otherOkB nodes k kids = false := by
    unfold otherOkB
    repeat' split
    all_goals first | rfl | omega
  rw [hf]
  have b27 : (k == 27) = false := beq_eq_false_iff_ne.2 (by omega)
  have b28 : (k == 28) = false := beq_eq_false_iff_ne.2 (by omega)
  have b29 : (k == 29) = false := beq_eq_false_iff_ne.2 (by omega)
  have b30 : (k == 30) = false := beq_eq_false_iff_ne.2 (by omega)
  have b31 : (k == 31) = false := beq_eq_false_iff_ne.2 (by omega)
  have b32 : (k == 32) = false := beq_eq_false_iff_ne.2 (by omega)
  have b33 : (k == 33) = false := beq_eq_false_iff_ne.2 (by omega)
  have b34 : (k == 34) = false := beq_eq_false_iff_ne.2 (by omega)
  clear hf hk
  go_enter Try.func49, Try.ntmps49
  go_wp2
  go_ret
  exact ⟨rfl, by repeat (first | exact HB.out | apply pw_below_drewN | apply below_drew1 | apply below_alloc)⟩
set_option maxHeartbeats 8000000 in
set_option maxRecDepth 100000 in
theorem otherOk33.calls (gt : Nat) (A : Option Addr) (c : Nat) (nodes : List S56) (B : Option Addr) (d : Nat) (tops : List Int) (s : ByteArray) (v : Int) (K : Option Addr) (kc : Nat) (kids : List Int) (w : World) (hN : NodeAt w gt A c nodes B d tops K kids) (hkc : kids.length ≤ kc) :
    Calls Try.prog 49 #[.pointer (some ⟨gt, 0, none⟩), .agg #[.int .i64 33, .string s, .int .i64 v, .slice K kids.length kc]] w fun e w' => e = .returned (.bool (otherOkB nodes 33 kids)) ∧ Below w.heap.size w w' := by
  have hu141 := Try.underlying56
  have HN := Aside0.mk hN
  clear hN
  have HB := Aside0.mk (Below.refl w.heap.size w)
  by_cases cn : kids.length = 0
  · obtain rfl : kids = [] := List.eq_nil_of_length_eq_zero cn
    go_enter Try.func49, Try.ntmps49
    go_wp2
    go_quiet (fail)
    go_wp2
    go_ret
    exact ⟨rfl, by repeat (first | exact HB.out | apply pw_below_drewN | apply below_drew1 | apply below_alloc)⟩
  obtain ⟨m, hm⟩ : ∃ m, kids.length = m + 1 := ⟨kids.length - 1, by omega⟩
  have hmax : m + 1 ≤ 9223372036854775807 := by have := HN.out.k.2.1; rw [hm] at this; exact this
  have hcut : ∀ W : World, (Instr.slice 23 (.slice K (m + 1) kc) none (some (.int .i64 (m : Int))) none).run Try.prog W = .ok (.slice K (kids.take m).length kc) W := by
    obtain ⟨i0, hi0, _, hsz, _⟩ := info_parts info3
    have := (print_take_int (P := Try.prog) (k := .i64) 23 3 Try.underlying23 hi0 hsz K kc kids (m : Int) (by omega) (by omega) hkc).1
    rw [hm, Int.toNat_natCast] at this
    exact this
  obtain ⟨adK, ead, hx⟩ := Kd.at_int HN.out.k (m : Int) (by omega) (by omega)
  cases ead
  rw [Int.toNat_natCast] at hx
  have hmem : rd kids (m : Int) ∈ kids := by
    unfold rd
    rw [Int.toNat_natCast, List.getD_eq_getElem?_getD, List.getElem?_eq_getElem (by omega)]
    exact List.getElem_mem _
  have hlast : kids.getLastD 0 = rd kids (m : Int) := by
    unfold rd
    rw [Int.toNat_natCast, List.getLastD_eq_getLast?, List.getLast?_eq_getElem?, hm, List.getD_eq_getElem?_getD]
    rfl
  have hE : otherOkB nodes 33 kids = (((kids.take m).all fun x => isK 32 (rd_T56 nodes x).f0) && isK 27 (rd_T56 nodes (rd kids (m : Int))).f0) := by
    show (decide (kids.length > 0) && (kids.dropLast.all fun x => isK 32 (rd_T56 nodes x).f0) && isK 27 (rd_T56 nodes (kids.getLastD 0)).f0) = _
    rw [decide_eq_true (by omega : kids.length > 0), Bool.true_and, hlast, List.dropLast_eq_take, hm]
    rfl
  rw [hE]
  clear hE hlast
  have HK : Aside0 (Kd.C (Kd.int .i64) w (some adK) (kids.take m).length (kids.take m)) := ⟨Kd.C_take HN.out.k (by omega)⟩
  have HT : Aside0 (TreeAt w gt A c nodes B d tops) := ⟨HN.out.t⟩
  have HI : Aside0 (kidsIn nodes (kids.take m)) := ⟨fun z hz => HN.out.i z (List.mem_of_mem_take hz)⟩
  have HL : Aside0 ((kids.take m).length = m) := ⟨by rw [List.length_take]; omega⟩
  obtain ⟨p0, q0⟩ := HN.out.i _ hmem
  rw [hm]
  generalize rd kids (m : Int) = x at hx hmem p0 q0 ⊢
  obtain ⟨nd, NA, nc, end_, hy, _⟩ := at_T56 HN.out.t.hn x p0 q0
  cases end_
  have hT0 : w.cell? ⟨gt, 0, none⟩ = some (.slice (some nd) nodes.length c) := (blk_cell HN.out.t.own 0).trans rfl
  generalize (rd_T56 nodes x).f0 = y at hy ⊢
  replace p0 := eq_true p0
  replace q0 := eq_true q0
  have HNN : Aside0 (NodeAt w gt (some nd) c nodes B d tops (some adK) (kids.take m)) := ⟨⟨HT.out, HK.out, HI.out⟩⟩
  clear hmem hkc cn HN HK HT HI hm
  generalize kids.take m = ks at hcut HL HNN ⊢
  rw [HL.out] at hcut
  go_enter Try.func49, Try.ntmps49
  have hcA0 := fun (w3 W : World) (hb0 : Below w.heap.size w w3) (B6 : Nat) (hb : Below w3.heap.size w3 W) (hj : W.cell? ⟨B6, 0, none⟩ = some (.int .i64 32)) => areB.calls (kc := kc) 85 #[.pointer (some ⟨B6, 0, none⟩)] (isK 32) (HNN.out.below hb0) hb (fnJust W B6 32 hj)
  rw [HL.out] at hcA0
  have HCA := Aside0.mk hcA0
  clear hcA0
  go_wp2
  have hb0 : Below w.heap.size w (w.alloc (.cells #[.int .i64 33, .string s, .int .i64 v, .slice (some adK) (m + 1) kc] 56)) := below_alloc (Below.refl _ _) _
  have hg0 := bx3 w 33 s v (.slice (some adK) (m + 1) kc)
  generalize (w.alloc (.cells #[.int .i64 33, .string s, .int .i64 v, .slice (some adK) (m + 1) kc] 56)) = w3 at hb0 hg0 ⊢
  have hS : ∀ w', Below w3.heap.size w3 w' → w'.cell? ⟨w.heap.size, 3, none⟩ = some (.slice (some adK) (m + 1) kc) ∧ w'.cell? ⟨gt, 0, none⟩ = some (.slice (some nd) nodes.length c) ∧ w'.cell? (adK.add m) = some (.int .i64 x) ∧ w'.cell? (nd.add (x.toNat * 4)) = some (.int .i64 y) := fun w' h3 => ⟨pw_cell_below h3 hg0, pw_cell_below (below_step hb0 h3) hT0, pw_cell_below (below_step hb0 h3) hx, pw_cell_below (below_step hb0 h3) hy⟩
  have hcJ := fun (W : World) => just209.calls 32 W
  have hb3 : Below w3.heap.size w3 w3 := Below.refl _ _
  clear hx hy hT0 hg0
  have hm0 : (0 : Int) ≤ (m : Int) := by omega
  have hm1 : (m : Int) < ((m + 1 : Nat) : Int) := by omega
  have hcA := HCA.out w3
  cases hp : (ks.all fun x => isK 32 (rd_T56 nodes x).f0) with
  | true =>
    rw [hp] at hcA
    have HP := Aside0.mk hp
    clear hp
    refine wp_region_held_drew (S := fun w' => w'.cell? ⟨w.heap.size, 3, none⟩ = some (.slice (some adK) (m + 1) kc) ∧ w'.cell? ⟨gt, 0, none⟩ = some (.slice (some nd) nodes.length c) ∧ w'.cell? (adK.add m) = some (.int .i64 x) ∧ w'.cell? (nd.add (x.toNat * 4)) = some (.int .i64 y)) (by kernel_rfl) ?hs (fun hHeld => ?_)
    case hs => exact hS _ (by repeat (with_reducible first | exact hb3 | exact hb7 | apply pw_below_drewN | apply below_drew1 | refine below_step ?_ hb6))
    refine wpAnyH_take (i := 0) (oi := _) (v := ?_) (by simp only [List.getElem?_toArray, List.getElem?_cons_succ, List.getElem?_cons_zero]; rfl) (by kernel_rfl) (by kernel_rfl) (by kernel_rfl) (by intro _ _ _ h; exact h) (Or.inl ⟨by rfl, ?h0⟩) hHeld ?_
    case h0 => (intro w hSw; (try dsimp only at hSw); go_simp; (try rw [if_pos (by omega)]); try (with_reducible rfl))
    (try simp only [Act.put, List.setIfInBounds_toArray, List.set_cons_zero, List.set_cons_succ])
    refine wpAnyH_take (i := 1) (oi := _) (v := ?_) (by simp only [List.getElem?_toArray, List.getElem?_cons_succ, List.getElem?_cons_zero]; rfl) (by kernel_rfl) (by kernel_rfl) (by kernel_rfl) (by intro _ _ _ h; exact h) (Or.inl ⟨by rfl, ?h1⟩) hHeld ?_
    case h1 => (intro w hSw; (try dsimp only at hSw); go_simp; (try rw [if_pos (by omega)]); try (with_reducible rfl))
    (try simp only [Act.put, List.setIfInBounds_toArray, List.set_cons_zero, List.set_cons_succ])
    refine wpAnyH_take (i := 2) (oi := _) (v := ?_) (by simp only [List.getElem?_toArray, List.getElem?_cons_succ, List.getElem?_cons_zero]; rfl) (by kernel_rfl) (by kernel_rfl) (by kernel_rfl) (by intro _ _ _ h; exact h) (Or.inl ⟨by rfl, ?h2⟩) hHeld ?_
    case h2 => (intro w hSw; (try dsimp only at hSw); go_simp; (try rw [if_pos (by omega)]); try (with_reducible rfl))
    (try simp only [Act.put, List.setIfInBounds_toArray, List.set_cons_zero, List.set_cons_succ])
    refine wpAnyH_take (i := 3) (oi := _) (v := ?_) (by simp only [List.getElem?_toArray, List.getElem?_cons_succ, List.getElem?_cons_zero]; rfl) (by kernel_rfl) (by kernel_rfl) (by kernel_rfl) (by intro _ _ _ h; exact h) (Or.inl ⟨by rfl, ?h3⟩) hHeld ?_
    case h3 => (intro w hSw; (try dsimp only at hSw); go_simp; (try rw [if_pos (by omega)]); try (with_reducible rfl))
    (try simp only [Act.put, List.setIfInBounds_toArray, List.set_cons_zero, List.set_cons_succ])
    refine wpAnyH_take (i := 4) (oi := _) (v := ?_) (by simp only [List.getElem?_toArray, List.getElem?_cons_succ, List.getElem?_cons_zero]; rfl) (by kernel_rfl) (by kernel_rfl) (by kernel_rfl) (by intro _ _ _ h; exact h) (Or.inl ⟨by rfl, ?h4⟩) hHeld ?_
    case h4 => (intro w hSw; (try dsimp only at hSw); go_simp; (try rw [if_pos (by omega)]); try (with_reducible rfl))
    (try simp only [Act.put, List.setIfInBounds_toArray, List.set_cons_zero, List.set_cons_succ])
    refine wpAnyH_take (i := 5) (oi := _) (v := ?_) (by simp only [List.getElem?_toArray, List.getElem?_cons_succ, List.getElem?_cons_zero]; rfl) (by kernel_rfl) (by kernel_rfl) (by kernel_rfl) (by intro _ _ _ h; exact h) (Or.inl ⟨by rfl, ?h5⟩) hHeld ?_
    case h5 => (intro w hSw; (try dsimp only at hSw); go_simp; (try rw [if_pos (by omega)]); try (with_reducible rfl))
    (try simp only [Act.put, List.setIfInBounds_toArray, List.set_cons_zero, List.set_cons_succ])
    refine wpAnyH_take (i := 6) (oi := _) (v := ?_) (by simp only [List.getElem?_toArray, List.getElem?_cons_succ, List.getElem?_cons_zero]; rfl) (by kernel_rfl) (by kernel_rfl) (by kernel_rfl) (by intro _ _ _ h; exact h) (Or.inl ⟨by rfl, ?h6⟩) hHeld ?_
    case h6 => (intro w hSw; (try dsimp only at hSw); go_simp; (try rw [if_pos (by omega)]); try (with_reducible rfl))
    (try simp only [Act.put, List.setIfInBounds_toArray, List.set_cons_zero, List.set_cons_succ])
    refine wpAnyH_take (i := 7) (oi := _) (v := ?_) (by simp only [List.getElem?_toArray, List.getElem?_cons_succ, List.getElem?_cons_zero]; rfl) (by kernel_rfl) (by kernel_rfl) (by kernel_rfl) (by intro _ _ _ h; exact h) (Or.inl ⟨by rfl, ?h7⟩) hHeld ?_
    case h7 => (intro w hSw; (try dsimp only at hSw); go_simp; (try rw [if_pos (by omega)]); try (with_reducible rfl))
    (try simp only [Act.put, List.setIfInBounds_toArray, List.set_cons_zero, List.set_cons_succ])
    refine wpAnyH_ready (rs := [8]) (by kernel_rfl) (by simp) ?_
    refine AllReadyH.cons (by simp only [List.getElem?_toArray, List.getElem?_cons_succ, List.getElem?_cons_zero]; rfl) (fun K hK => ?_) AllReadyH.nil
    go_simp; go_at_call 66; with_reducible refine (hcJ _).mono ?_; rintro e w6 ⟨B6, rfl, hj6, hb6⟩; (try go_simp)
    refine hK.out _ _ ?hs8 (fun hHeld => ?_)
    case hs8 => exact hS _ (by repeat (with_reducible first | exact hb3 | exact hb7 | apply pw_below_drewN | apply below_drew1 | refine below_step ?_ hb6))
    clear hK K
    (try simp only [Act.put, List.setIfInBounds_toArray, List.set_cons_zero, List.set_cons_succ])
    refine wpAnyH_ready (rs := [9]) (by kernel_rfl) (by simp) ?_
    refine AllReadyH.cons (by simp only [List.getElem?_toArray, List.getElem?_cons_succ, List.getElem?_cons_zero]; rfl) (fun K hK => ?_) AllReadyH.nil
    go_simp; go_at_call 64; (with_reducible refine (hcA _ hb0 B6 ?hh1 ?hh2).mono ?_); (case hh1 => repeat (with_reducible first | exact hb3 | apply pw_below_drewN | apply below_drew1 | refine below_step ?_ hb6)); (case hh2 => (with_reducible first | exact hj6 | exact pw_cell_below (pw_below_drewN (Below.refl _ _) _) hj6 | exact pw_cell_below (below_drew1 (Below.refl _ _)) hj6)); rintro e w7 ⟨rfl, hb7⟩; (try go_simp)
    refine hK.out _ _ ?hs9 (fun hHeld => ?_)
    case hs9 => exact hS _ (by repeat (with_reducible first | exact hb3 | exact hb7 | apply pw_below_drewN | apply below_drew1 | refine below_step ?_ hb6))
    clear hK K
    (try simp only [Act.put, List.setIfInBounds_toArray, List.set_cons_zero, List.set_cons_succ])
    refine wpAnyH_take (i := 10) (oi := _) (v := ?_) (by simp only [List.getElem?_toArray, List.getElem?_cons_succ, List.getElem?_cons_zero]; rfl) (by kernel_rfl) (by kernel_rfl) (by kernel_rfl) (by intro _ _ _ h; exact h) (Or.inl ⟨by rfl, ?h10⟩) hHeld ?_
    case h10 => (intro w hSw; (try dsimp only at hSw); go_simp; (try rw [if_pos (by omega)]); try (with_reducible rfl))
    (try simp only [Act.put, List.setIfInBounds_toArray, List.set_cons_zero, List.set_cons_succ])
    refine wpAnyH_take (i := 11) (oi := _) (v := ?_) (by simp only [List.getElem?_toArray, List.getElem?_cons_succ, List.getElem?_cons_zero]; rfl) (by kernel_rfl) (by kernel_rfl) (by kernel_rfl) (by intro _ _ _ h; exact h) (Or.inl ⟨by rfl, ?h11⟩) hHeld ?_
    case h11 => (intro w hSw; (try dsimp only at hSw); go_simp; (try rw [if_pos (by omega)]); try (with_reducible rfl))
    (try simp only [Act.put, List.setIfInBounds_toArray, List.set_cons_zero, List.set_cons_succ])
    refine wpAnyH_take (i := 12) (oi := _) (v := ?_) (by simp only [List.getElem?_toArray, List.getElem?_cons_succ, List.getElem?_cons_zero]; rfl) (by kernel_rfl) (by kernel_rfl) (by kernel_rfl) (by intro _ _ _ h; exact h) (Or.inl ⟨by rfl, ?h12⟩) hHeld ?_
    case h12 => (intro w hSw; (try dsimp only at hSw); go_simp; (try rw [if_pos (by omega)]); try (with_reducible rfl))
    (try simp only [Act.put, List.setIfInBounds_toArray, List.set_cons_zero, List.set_cons_succ])
    refine wpAnyH_take (i := 13) (oi := _) (v := ?_) (by simp only [List.getElem?_toArray, List.getElem?_cons_succ, List.getElem?_cons_zero]; rfl) (by kernel_rfl) (by kernel_rfl) (by kernel_rfl) (by intro _ _ _ h; exact h) (Or.inl ⟨by rfl, ?h13⟩) hHeld ?_
    case h13 => (intro w hSw; (try dsimp only at hSw); go_simp; (try rw [if_pos (by omega)]); try (with_reducible rfl))
    (try simp only [Act.put, List.setIfInBounds_toArray, List.set_cons_zero, List.set_cons_succ])
    refine wpAnyH_take (i := 14) (oi := _) (v := ?_) (by simp only [List.getElem?_toArray, List.getElem?_cons_succ, List.getElem?_cons_zero]; rfl) (by kernel_rfl) (by kernel_rfl) (by kernel_rfl) (by intro _ _ _ h; exact h) (Or.inl ⟨by rfl, ?h14⟩) hHeld ?_
    case h14 => (intro w hSw; (try dsimp only at hSw); go_simp; (try rw [if_pos (by omega)]); try (with_reducible rfl))
    (try simp only [Act.put, List.setIfInBounds_toArray, List.set_cons_zero, List.set_cons_succ])
    refine wpAnyH_take (i := 15) (oi := _) (v := ?_) (by simp only [List.getElem?_toArray, List.getElem?_cons_succ, List.getElem?_cons_zero]; rfl) (by kernel_rfl) (by kernel_rfl) (by kernel_rfl) (by intro _ _ _ h; exact h) (Or.inl ⟨by rfl, ?h15⟩) hHeld ?_
    case h15 => (intro w hSw; (try dsimp only at hSw); go_simp; (try rw [if_pos (by omega)]); try (with_reducible rfl))
    (try simp only [Act.put, List.setIfInBounds_toArray, List.set_cons_zero, List.set_cons_succ])
    refine wpAnyH_take (i := 16) (oi := _) (v := ?_) (by simp only [List.getElem?_toArray, List.getElem?_cons_succ, List.getElem?_cons_zero]; rfl) (by kernel_rfl) (by kernel_rfl) (by kernel_rfl) (by intro _ _ _ h; exact h) (Or.inl ⟨by rfl, ?h16⟩) hHeld ?_
    case h16 => (intro w hSw; (try dsimp only at hSw); go_simp; (try rw [if_pos (by omega)]); try (with_reducible rfl))
    (try simp only [Act.put, List.setIfInBounds_toArray, List.set_cons_zero, List.set_cons_succ])
    refine wpAnyH_take (i := 17) (oi := _) (v := ?_) (by simp only [List.getElem?_toArray, List.getElem?_cons_succ, List.getElem?_cons_zero]; rfl) (by kernel_rfl) (by kernel_rfl) (by kernel_rfl) (by intro _ _ _ h; exact h) (Or.inl ⟨by rfl, ?h17⟩) hHeld ?_
    case h17 => (intro w hSw; (try dsimp only at hSw); go_simp; (try rw [if_pos (by omega)]); try (with_reducible rfl))
    (try simp only [Act.put, List.setIfInBounds_toArray, List.set_cons_zero, List.set_cons_succ])
    refine wpAnyH_take (i := 18) (oi := _) (v := ?_) (by simp only [List.getElem?_toArray, List.getElem?_cons_succ, List.getElem?_cons_zero]; rfl) (by kernel_rfl) (by kernel_rfl) (by kernel_rfl) (by intro _ _ _ h; exact h) (Or.inl ⟨by rfl, ?h18⟩) hHeld ?_
    case h18 => (intro w hSw; (try dsimp only at hSw); go_simp; (try rw [if_pos (by omega)]); try (with_reducible rfl))
    (try simp only [Act.put, List.setIfInBounds_toArray, List.set_cons_zero, List.set_cons_succ])
    refine wpAnyH_take (i := 19) (oi := _) (v := ?_) (by simp only [List.getElem?_toArray, List.getElem?_cons_succ, List.getElem?_cons_zero]; rfl) (by kernel_rfl) (by kernel_rfl) (by kernel_rfl) (by intro _ _ _ h; exact h) (Or.inl ⟨by rfl, ?h19⟩) hHeld ?_
    case h19 => (intro w hSw; (try dsimp only at hSw); go_simp; (try rw [if_pos (by omega)]); try (with_reducible rfl))
    (try simp only [Act.put, List.setIfInBounds_toArray, List.set_cons_zero, List.set_cons_succ])
    refine wpAnyH_take (i := 20) (oi := _) (v := ?_) (by simp only [List.getElem?_toArray, List.getElem?_cons_succ, List.getElem?_cons_zero]; rfl) (by kernel_rfl) (by kernel_rfl) (by kernel_rfl) (by intro _ _ _ h; exact h) (Or.inl ⟨by rfl, ?h20⟩) hHeld ?_
    case h20 => (intro w hSw; (try dsimp only at hSw); go_simp; (try rw [if_pos (by omega)]); try (with_reducible rfl))
    (try simp only [Act.put, List.setIfInBounds_toArray, List.set_cons_zero, List.set_cons_succ])
    refine wpAnyH_take (i := 21) (oi := _) (v := ?_) (by simp only [List.getElem?_toArray, List.getElem?_cons_succ, List.getElem?_cons_zero]; rfl) (by kernel_rfl) (by kernel_rfl) (by kernel_rfl) (by intro _ _ _ h; exact h) (Or.inl ⟨by rfl, ?h21⟩) hHeld ?_
    case h21 => (intro w hSw; (try dsimp only at hSw); go_simp; (try rw [if_pos (by omega)]); try (with_reducible rfl))
    (try simp only [Act.put, List.setIfInBounds_toArray, List.set_cons_zero, List.set_cons_succ])
    refine wpAnyH_take (i := 22) (oi := _) (v := ?_) (by simp only [List.getElem?_toArray, List.getElem?_cons_succ, List.getElem?_cons_zero]; rfl) (by kernel_rfl) (by kernel_rfl) (by kernel_rfl) (by intro _ _ _ h; exact h) (Or.inl ⟨by rfl, ?h22⟩) hHeld ?_
    case h22 => (intro w hSw; (try dsimp only at hSw); go_simp; (try rw [if_pos (by omega)]); try (with_reducible rfl))
    (try simp only [Act.put, List.setIfInBounds_toArray, List.set_cons_zero, List.set_cons_succ])
    refine wpAnyH_take (i := 23) (oi := _) (v := ?_) (by simp only [List.getElem?_toArray, List.getElem?_cons_succ, List.getElem?_cons_zero]; rfl) (by kernel_rfl) (by kernel_rfl) (by kernel_rfl) (by intro _ _ _ h; exact h) (Or.inl ⟨by rfl, ?h23⟩) hHeld ?_
    case h23 => (intro w hSw; (try dsimp only at hSw); go_simp; (try rw [if_pos (by omega)]); try (with_reducible rfl))
    (try simp only [Act.put, List.setIfInBounds_toArray, List.set_cons_zero, List.set_cons_succ])
    refine wpAnyH_take (i := 24) (oi := _) (v := ?_) (by simp only [List.getElem?_toArray, List.getElem?_cons_succ, List.getElem?_cons_zero]; rfl) (by kernel_rfl) (by kernel_rfl) (by kernel_rfl) (by intro _ _ _ h; exact h) (Or.inl ⟨by rfl, ?h24⟩) hHeld ?_
    case h24 => (intro w hSw; (try dsimp only at hSw); go_simp; (try rw [if_pos (by omega)]); try (with_reducible rfl))
    (try simp only [Act.put, List.setIfInBounds_toArray, List.set_cons_zero, List.set_cons_succ])
    refine wpAnyH_take (i := 25) (oi := _) (v := ?_) (by simp only [List.getElem?_toArray, List.getElem?_cons_succ, List.getElem?_cons_zero]; rfl) (by kernel_rfl) (by kernel_rfl) (by kernel_rfl) (by intro _ _ _ h; exact h) (Or.inl ⟨by rfl, ?h25⟩) hHeld ?_
    case h25 => (intro w hSw; (try dsimp only at hSw); go_simp; (try rw [if_pos (by omega)]); try (with_reducible rfl))
    (try simp only [Act.put, List.setIfInBounds_toArray, List.set_cons_zero, List.set_cons_succ])
    refine wpAnyH_take (i := 26) (oi := _) (v := ?_) (by simp only [List.getElem?_toArray, List.getElem?_cons_succ, List.getElem?_cons_zero]; rfl) (by kernel_rfl) (by kernel_rfl) (by kernel_rfl) (by intro _ _ _ h; exact h) (Or.inl ⟨by rfl, ?h26⟩) hHeld ?_
    case h26 => (intro w hSw; (try dsimp only at hSw); go_simp; (try rw [if_pos (by omega)]); try (with_reducible rfl))
    (try simp only [Act.put, List.setIfInBounds_toArray, List.set_cons_zero, List.set_cons_succ])
    refine wpAnyH_done (by kernel_rfl) ?_ _
    go_wp2
    go_ret
    exact ⟨by rw [HP.out, Bool.true_and]; rfl, below_step hb0 (by repeat (with_reducible first | exact hb3 | exact hb7 | apply pw_below_drewN | apply below_drew1 | apply below_alloc))⟩
  | false =>
    rw [hp] at hcA
    have HP := Aside0.mk hp
    clear hp
    refine wp_region_held_drew (S := fun w' => w'.cell? ⟨w.heap.size, 3, none⟩ = some (.slice (some adK) (m + 1) kc) ∧ w'.cell? ⟨gt, 0, none⟩ = some (.slice (some nd) nodes.length c) ∧ w'.cell? (adK.add m) = some (.int .i64 x) ∧ w'.cell? (nd.add (x.toNat * 4)) = some (.int .i64 y)) (by kernel_rfl) ?hs (fun hHeld => ?_)
    case hs => exact hS _ (by repeat (with_reducible first | exact hb3 | exact hb7 | apply pw_below_drewN | apply below_drew1 | refine below_step ?_ hb6))
    refine wpAnyH_take (i := 0) (oi := _) (v := ?_) (by simp only [List.getElem?_toArray, List.getElem?_cons_succ, List.getElem?_cons_zero]; rfl) (by kernel_rfl) (by kernel_rfl) (by kernel_rfl) (by intro _ _ _ h; exact h) (Or.inl ⟨by rfl, ?h0⟩) hHeld ?_
    case h0 => (intro w hSw; (try dsimp only at hSw); go_simp; (try rw [if_pos (by omega)]); try (with_reducible rfl))
    (try simp only [Act.put, List.setIfInBounds_toArray, List.set_cons_zero, List.set_cons_succ])
    refine wpAnyH_take (i := 1) (oi := _) (v := ?_) (by simp only [List.getElem?_toArray, List.getElem?_cons_succ, List.getElem?_cons_zero]; rfl) (by kernel_rfl) (by kernel_rfl) (by kernel_rfl) (by intro _ _ _ h; exact h) (Or.inl ⟨by rfl, ?h1⟩) hHeld ?_
    case h1 => (intro w hSw; (try dsimp only at hSw); go_simp; (try rw [if_pos (by omega)]); try (with_reducible rfl))
    (try simp only [Act.put, List.setIfInBounds_toArray, List.set_cons_zero, List.set_cons_succ])
    refine wpAnyH_take (i := 2) (oi := _) (v := ?_) (by simp only [List.getElem?_toArray, List.getElem?_cons_succ, List.getElem?_cons_zero]; rfl) (by kernel_rfl) (by kernel_rfl) (by kernel_rfl) (by intro _ _ _ h; exact h) (Or.inl ⟨by rfl, ?h2⟩) hHeld ?_
    case h2 => (intro w hSw; (try dsimp only at hSw); go_simp; (try rw [if_pos (by omega)]); try (with_reducible rfl))
    (try simp only [Act.put, List.setIfInBounds_toArray, List.set_cons_zero, List.set_cons_succ])
    refine wpAnyH_take (i := 3) (oi := _) (v := ?_) (by simp only [List.getElem?_toArray, List.getElem?_cons_succ, List.getElem?_cons_zero]; rfl) (by kernel_rfl) (by kernel_rfl) (by kernel_rfl) (by intro _ _ _ h; exact h) (Or.inl ⟨by rfl, ?h3⟩) hHeld ?_
    case h3 => (intro w hSw; (try dsimp only at hSw); go_simp; (try rw [if_pos (by omega)]); try (with_reducible rfl))
    (try simp only [Act.put, List.setIfInBounds_toArray, List.set_cons_zero, List.set_cons_succ])
    refine wpAnyH_take (i := 4) (oi := _) (v := ?_) (by simp only [List.getElem?_toArray, List.getElem?_cons_succ, List.getElem?_cons_zero]; rfl) (by kernel_rfl) (by kernel_rfl) (by kernel_rfl) (by intro _ _ _ h; exact h) (Or.inl ⟨by rfl, ?h4⟩) hHeld ?_
    case h4 => (intro w hSw; (try dsimp only at hSw); go_simp; (try rw [if_pos (by omega)]); try (with_reducible rfl))
    (try simp only [Act.put, List.setIfInBounds_toArray, List.set_cons_zero, List.set_cons_succ])
    refine wpAnyH_take (i := 5) (oi := _) (v := ?_) (by simp only [List.getElem?_toArray, List.getElem?_cons_succ, List.getElem?_cons_zero]; rfl) (by kernel_rfl) (by kernel_rfl) (by kernel_rfl) (by intro _ _ _ h; exact h) (Or.inl ⟨by rfl, ?h5⟩) hHeld ?_
    case h5 => (intro w hSw; (try dsimp only at hSw); go_simp; (try rw [if_pos (by omega)]); try (with_reducible rfl))
    (try simp only [Act.put, List.setIfInBounds_toArray, List.set_cons_zero, List.set_cons_succ])
    refine wpAnyH_take (i := 6) (oi := _) (v := ?_) (by simp only [List.getElem?_toArray, List.getElem?_cons_succ, List.getElem?_cons_zero]; rfl) (by kernel_rfl) (by kernel_rfl) (by kernel_rfl) (by intro _ _ _ h; exact h) (Or.inl ⟨by rfl, ?h6⟩) hHeld ?_
    case h6 => (intro w hSw; (try dsimp only at hSw); go_simp; (try rw [if_pos (by omega)]); try (with_reducible rfl))
    (try simp only [Act.put, List.setIfInBounds_toArray, List.set_cons_zero, List.set_cons_succ])
    refine wpAnyH_take (i := 7) (oi := _) (v := ?_) (by simp only [List.getElem?_toArray, List.getElem?_cons_succ, List.getElem?_cons_zero]; rfl) (by kernel_rfl) (by kernel_rfl) (by kernel_rfl) (by intro _ _ _ h; exact h) (Or.inl ⟨by rfl, ?h7⟩) hHeld ?_
    case h7 => (intro w hSw; (try dsimp only at hSw); go_simp; (try rw [if_pos (by omega)]); try (with_reducible rfl))
    (try simp only [Act.put, List.setIfInBounds_toArray, List.set_cons_zero, List.set_cons_succ])
    refine wpAnyH_ready (rs := [8]) (by kernel_rfl) (by simp) ?_
    refine AllReadyH.cons (by simp only [List.getElem?_toArray, List.getElem?_cons_succ, List.getElem?_cons_zero]; rfl) (fun K hK => ?_) AllReadyH.nil
    go_simp; go_at_call 66; with_reducible refine (hcJ _).mono ?_; rintro e w6 ⟨B6, rfl, hj6, hb6⟩; (try go_simp)
    refine hK.out _ _ ?hs8 (fun hHeld => ?_)
    case hs8 => exact hS _ (by repeat (with_reducible first | exact hb3 | exact hb7 | apply pw_below_drewN | apply below_drew1 | refine below_step ?_ hb6))
    clear hK K
    (try simp only [Act.put, List.setIfInBounds_toArray, List.set_cons_zero, List.set_cons_succ])
    refine wpAnyH_ready (rs := [9]) (by kernel_rfl) (by simp) ?_
    refine AllReadyH.cons (by simp only [List.getElem?_toArray, List.getElem?_cons_succ, List.getElem?_cons_zero]; rfl) (fun K hK => ?_) AllReadyH.nil
    go_simp; go_at_call 64; (with_reducible refine (hcA _ hb0 B6 ?hh1 ?hh2).mono ?_); (case hh1 => repeat (with_reducible first | exact hb3 | apply pw_below_drewN | apply below_drew1 | refine below_step ?_ hb6)); (case hh2 => (with_reducible first | exact hj6 | exact pw_cell_below (pw_below_drewN (Below.refl _ _) _) hj6 | exact pw_cell_below (below_drew1 (Below.refl _ _)) hj6)); rintro e w7 ⟨rfl, hb7⟩; (try go_simp)
    refine hK.out _ _ ?hs9 (fun hHeld => ?_)
    case hs9 => exact hS _ (by repeat (with_reducible first | exact hb3 | exact hb7 | apply pw_below_drewN | apply below_drew1 | refine below_step ?_ hb6))
    clear hK K
    (try simp only [Act.put, List.setIfInBounds_toArray, List.set_cons_zero, List.set_cons_succ])
    refine wpAnyH_take (i := 10) (oi := _) (v := ?_) (by simp only [List.getElem?_toArray, List.getElem?_cons_succ, List.getElem?_cons_zero]; rfl) (by kernel_rfl) (by kernel_rfl) (by kernel_rfl) (by intro _ _ _ h; exact h) (Or.inl ⟨by rfl, ?h10⟩) hHeld ?_
    case h10 => (intro w hSw; (try dsimp only at hSw); go_simp; (try rw [if_pos (by omega)]); try (with_reducible rfl))
    (try simp only [Act.put, List.setIfInBounds_toArray, List.set_cons_zero, List.set_cons_succ])
    refine wpAnyH_take (i := 11) (oi := _) (v := ?_) (by simp only [List.getElem?_toArray, List.getElem?_cons_succ, List.getElem?_cons_zero]; rfl) (by kernel_rfl) (by kernel_rfl) (by kernel_rfl) (by intro _ _ _ h; exact h) (Or.inl ⟨by rfl, ?h11⟩) hHeld ?_
    case h11 => (intro w hSw; (try dsimp only at hSw); go_simp; (try rw [if_pos (by omega)]); try (with_reducible rfl))
    (try simp only [Act.put, List.setIfInBounds_toArray, List.set_cons_zero, List.set_cons_succ])
    refine wpAnyH_take (i := 12) (oi := _) (v := undef) (by simp only [List.getElem?_toArray, List.getElem?_cons_succ, List.getElem?_cons_zero]; rfl) (by kernel_rfl) (by kernel_rfl) (by kernel_rfl) (by intro _ _ _ h; exact h) (Or.inr ⟨by rfl, rfl⟩) hHeld ?_
    (try simp only [Act.put, List.setIfInBounds_toArray, List.set_cons_zero, List.set_cons_succ])
    refine wpAnyH_take (i := 13) (oi := _) (v := undef) (by simp only [List.getElem?_toArray, List.getElem?_cons_succ, List.getElem?_cons_zero]; rfl) (by kernel_rfl) (by kernel_rfl) (by kernel_rfl) (by intro _ _ _ h; exact h) (Or.inr ⟨by rfl, rfl⟩) hHeld ?_
    (try simp only [Act.put, List.setIfInBounds_toArray, List.set_cons_zero, List.set_cons_succ])
    refine wpAnyH_take (i := 14) (oi := _) (v := undef) (by simp only [List.getElem?_toArray, List.getElem?_cons_succ, List.getElem?_cons_zero]; rfl) (by kernel_rfl) (by kernel_rfl) (by kernel_rfl) (by intro _ _ _ h; exact h) (Or.inr ⟨by rfl, rfl⟩) hHeld ?_
    (try simp only [Act.put, List.setIfInBounds_toArray, List.set_cons_zero, List.set_cons_succ])
    refine wpAnyH_take (i := 15) (oi := _) (v := undef) (by simp only [List.getElem?_toArray, List.getElem?_cons_succ, List.getElem?_cons_zero]; rfl) (by kernel_rfl) (by kernel_rfl) (by kernel_rfl) (by intro _ _ _ h; exact h) (Or.inr ⟨by rfl, rfl⟩) hHeld ?_
    (try simp only [Act.put, List.setIfInBounds_toArray, List.set_cons_zero, List.set_cons_succ])
    refine wpAnyH_take (i := 16) (oi := _) (v := undef) (by simp only [List.getElem?_toArray, List.getElem?_cons_succ, List.getElem?_cons_zero]; rfl) (by kernel_rfl) (by kernel_rfl) (by kernel_rfl) (by intro _ _ _ h; exact h) (Or.inr ⟨by rfl, rfl⟩) hHeld ?_
    (try simp only [Act.put, List.setIfInBounds_toArray, List.set_cons_zero, List.set_cons_succ])
    refine wpAnyH_take (i := 17) (oi := _) (v := undef) (by simp only [List.getElem?_toArray, List.getElem?_cons_succ, List.getElem?_cons_zero]; rfl) (by kernel_rfl) (by kernel_rfl) (by kernel_rfl) (by intro _ _ _ h; exact h) (Or.inr ⟨by rfl, rfl⟩) hHeld ?_
    (try simp only [Act.put, List.setIfInBounds_toArray, List.set_cons_zero, List.set_cons_succ])
    refine wpAnyH_take (i := 18) (oi := _) (v := undef) (by simp only [List.getElem?_toArray, List.getElem?_cons_succ, List.getElem?_cons_zero]; rfl) (by kernel_rfl) (by kernel_rfl) (by kernel_rfl) (by intro _ _ _ h; exact h) (Or.inr ⟨by rfl, rfl⟩) hHeld ?_
    (try simp only [Act.put, List.setIfInBounds_toArray, List.set_cons_zero, List.set_cons_succ])
    refine wpAnyH_take (i := 19) (oi := _) (v := undef) (by simp only [List.getElem?_toArray, List.getElem?_cons_succ, List.getElem?_cons_zero]; rfl) (by kernel_rfl) (by kernel_rfl) (by kernel_rfl) (by intro _ _ _ h; exact h) (Or.inr ⟨by rfl, rfl⟩) hHeld ?_
    (try simp only [Act.put, List.setIfInBounds_toArray, List.set_cons_zero, List.set_cons_succ])
    refine wpAnyH_take (i := 20) (oi := _) (v := undef) (by simp only [List.getElem?_toArray, List.getElem?_cons_succ, List.getElem?_cons_zero]; rfl) (by kernel_rfl) (by kernel_rfl) (by kernel_rfl) (by intro _ _ _ h; exact h) (Or.inr ⟨by rfl, rfl⟩) hHeld ?_
    (try simp only [Act.put, List.setIfInBounds_toArray, List.set_cons_zero, List.set_cons_succ])
    refine wpAnyH_take (i := 21) (oi := _) (v := undef) (by simp only [List.getElem?_toArray, List.getElem?_cons_succ, List.getElem?_cons_zero]; rfl) (by kernel_rfl) (by kernel_rfl) (by kernel_rfl) (by intro _ _ _ h; exact h) (Or.inr ⟨by rfl, rfl⟩) hHeld ?_
    (try simp only [Act.put, List.setIfInBounds_toArray, List.set_cons_zero, List.set_cons_succ])
    refine wpAnyH_take (i := 22) (oi := _) (v := undef) (by simp only [List.getElem?_toArray, List.getElem?_cons_succ, List.getElem?_cons_zero]; rfl) (by kernel_rfl) (by kernel_rfl) (by kernel_rfl) (by intro _ _ _ h; exact h) (Or.inr ⟨by rfl, rfl⟩) hHeld ?_
    (try simp only [Act.put, List.setIfInBounds_toArray, List.set_cons_zero, List.set_cons_succ])
    refine wpAnyH_take (i := 23) (oi := _) (v := undef) (by simp only [List.getElem?_toArray, List.getElem?_cons_succ, List.getElem?_cons_zero]; rfl) (by kernel_rfl) (by kernel_rfl) (by kernel_rfl) (by intro _ _ _ h; exact h) (Or.inr ⟨by rfl, rfl⟩) hHeld ?_
    (try simp only [Act.put, List.setIfInBounds_toArray, List.set_cons_zero, List.set_cons_succ])
    refine wpAnyH_take (i := 24) (oi := _) (v := undef) (by simp only [List.getElem?_toArray, List.getElem?_cons_succ, List.getElem?_cons_zero]; rfl) (by kernel_rfl) (by kernel_rfl) (by kernel_rfl) (by intro _ _ _ h; exact h) (Or.inr ⟨by rfl, rfl⟩) hHeld ?_
    (try simp only [Act.put, List.setIfInBounds_toArray, List.set_cons_zero, List.set_cons_succ])
    refine wpAnyH_take (i := 25) (oi := _) (v := ?_) (by simp only [List.getElem?_toArray, List.getElem?_cons_succ, List.getElem?_cons_zero]; rfl) (by kernel_rfl) (by kernel_rfl) (by kernel_rfl) (by intro _ _ _ h; exact h) (Or.inl ⟨by rfl, ?h25⟩) hHeld ?_
    case h25 => (intro w hSw; (try dsimp only at hSw); go_simp; (try rw [if_pos (by omega)]); try (with_reducible rfl))
    (try simp only [Act.put, List.setIfInBounds_toArray, List.set_cons_zero, List.set_cons_succ])
    refine wpAnyH_take (i := 26) (oi := _) (v := ?_) (by simp only [List.getElem?_toArray, List.getElem?_cons_succ, List.getElem?_cons_zero]; rfl) (by kernel_rfl) (by kernel_rfl) (by kernel_rfl) (by intro _ _ _ h; exact h) (Or.inl ⟨by rfl, ?h26⟩) hHeld ?_
    case h26 => (intro w hSw; (try dsimp only at hSw); go_simp; (try rw [if_pos (by omega)]); try (with_reducible rfl))
    (try simp only [Act.put, List.setIfInBounds_toArray, List.set_cons_zero, List.set_cons_succ])
    refine wpAnyH_done (by kernel_rfl) ?_ _
    go_wp2
    go_ret
    exact ⟨by rw [HP.out, Bool.false_and]; rfl, below_step hb0 (by repeat (with_reducible first | exact hb3 | exact hb7 | apply pw_below_drewN | apply below_drew1 | apply below_alloc))⟩
section
variable {gt : Nat} {A : Option Addr} {c : Nat} {nodes : List S56} {B : Option Addr} {d : Nat} {tops : List Int} {K : Option Addr} {kc : Nat} {kids : List Int} {w0 w : World} {k : Int} {s : ByteArray} {v : Int}
theorem exprOk.calls (hN : NodeAt w0 gt A c nodes B d tops K kids) (hb : Below w0.heap.size w0 w) (hkc : kids.length ≤ kc) (h1 : 1 ≤ k) (h2 : k ≤ 11) :
    Calls Try.prog 46 #[.pointer (some ⟨gt, 0, none⟩), .agg #[.int .i64 k, .string s, .int .i64 v, .slice K kids.length kc]] w fun e w' => e = .returned (.bool (exprOkB nodes k kids)) ∧ Below w0.heap.size w0 w' := by
  suffices key : Calls Try.prog 46 #[.pointer (some ⟨gt, 0, none⟩), .agg #[.int .i64 k, .string s, .int .i64 v, .slice K kids.length kc]] w (fun e w' => e = .returned (.bool (exprOkB nodes k kids)) ∧ Below w.heap.size w w') from key.mono fun _ _ h => ⟨h.1, below_step hb h.2⟩
  by_cases h : k ≤ 10
  · exact exprOkA.calls gt A c nodes B d tops k s v K kc kids w (hN.below hb) h1 h
  · obtain rfl : k = 11 := by omega
    exact exprOkP.calls gt A c nodes B d tops s v K kc kids w (hN.below hb) hkc
theorem statOk.calls (hN : NodeAt w0 gt A c nodes B d tops K kids) (hb : Below w0.heap.size w0 w) (h1 : 12 ≤ k) (h2 : k ≤ 26) :
    Calls Try.prog 48 #[.pointer (some ⟨gt, 0, none⟩), .agg #[.int .i64 k, .string s, .int .i64 v, .slice K kids.length kc]] w fun e w' => e = .returned (.bool (statOkB nodes k kids)) ∧ Below w0.heap.size w0 w' := by
  suffices key : Calls Try.prog 48 #[.pointer (some ⟨gt, 0, none⟩), .agg #[.int .i64 k, .string s, .int .i64 v, .slice K kids.length kc]] w (fun e w' => e = .returned (.bool (statOkB nodes k kids)) ∧ Below w.heap.size w w') from key.mono fun _ _ h => ⟨h.1, below_step hb h.2⟩
  rcases (by omega : k = 16 ∨ k = 18 ∨ k = 20 ∨ k = 21 ∨ k = 25 ∨ (k = 12 ∨ k = 13 ∨ k = 14 ∨ k = 15 ∨ k = 19 ∨ k = 23 ∨ k = 26 ∨ k = 22 ∨ k = 24 ∨ k = 17)) with rfl | rfl | rfl | rfl | rfl | h
  · exact statOk16.calls gt A c nodes B d tops s v K kc kids w (hN.below hb)
  · exact statOk18.calls gt A c nodes B d tops s v K kc kids w (hN.below hb)
  · exact statOk20.calls gt A c nodes B d tops s v K kc kids w (hN.below hb)
  · exact statOk21.calls gt A c nodes B d tops s v K kc kids w (hN.below hb)
  · exact statOk25.calls gt A c nodes B d tops s v K kc kids w (hN.below hb)
  · exact statOkA.calls gt A c nodes B d tops k s v K kc kids w (hN.below hb) h
theorem otherOk.calls (hN : NodeAt w0 gt A c nodes B d tops K kids) (hb : Below w0.heap.size w0 w) (hkc : kids.length ≤ kc) (h1 : k < 1 ∨ 26 < k) :
    Calls Try.prog 49 #[.pointer (some ⟨gt, 0, none⟩), .agg #[.int .i64 k, .string s, .int .i64 v, .slice K kids.length kc]] w fun e w' => e = .returned (.bool (otherOkB nodes k kids)) ∧ Below w0.heap.size w0 w' := by
  suffices key : Calls Try.prog 49 #[.pointer (some ⟨gt, 0, none⟩), .agg #[.int .i64 k, .string s, .int .i64 v, .slice K kids.length kc]] w (fun e w' => e = .returned (.bool (otherOkB nodes k kids)) ∧ Below w.heap.size w w') from key.mono fun _ _ h => ⟨h.1, below_step hb h.2⟩
  rcases (by omega : k = 27 ∨ k = 28 ∨ k = 29 ∨ k = 30 ∨ k = 31 ∨ k = 32 ∨ k = 33 ∨ k = 34 ∨ (k < 27 ∨ 34 < k)) with rfl | rfl | rfl | rfl | rfl | rfl | rfl | rfl | h
  · exact otherOk27.calls gt A c nodes B d tops s v K kc kids w (hN.below hb)
  · exact otherOk28.calls gt A c nodes B d tops s v K kc kids w (hN.below hb)
  · exact otherOk29.calls gt A c nodes B d tops s v K kc kids w (hN.below hb)
  · exact otherOk30.calls gt A c nodes B d tops s v K kc kids w (hN.below hb)
  · exact otherOk31.calls gt A c nodes B d tops s v K kc kids w (hN.below hb)
  · exact otherOk32.calls gt A c nodes B d tops s v K kc kids w (hN.below hb)
  · exact otherOk33.calls gt A c nodes B d tops s v K kc kids w (hN.below hb) hkc
  · exact otherOk34.calls gt A c nodes B d tops s v K kc kids w (hN.below hb)
  · exact otherOkN.calls gt A c nodes B d tops k s v K kc kids w h
end
def kidsGood (nodes : List S56) (k : Int) (kids : List Int) : Bool :=
  if isExprV k then exprOkB nodes k kids else if isStatV k then statOkB nodes k kids else otherOkB nodes k kids
def nodeV (nodes : List S56) (i : Int) (tx : Bool) : Bool :=
  (rd_T56 nodes i).f3.all (fun k => decide (0 ≤ k ∧ k ≤ i - 1)) && tx && kidsGood nodes (rd_T56 nodes i).f0 (rd_T56 nodes i).f3
theorem within_dec (k i : Int) : impl_within.f k 0 (i - 1) = some (decide (0 ≤ k ∧ k ≤ i - 1)) := by
  unfold impl_within.f
  split <;> simp [*]
set_option maxHeartbeats 8000000 in
set_option maxRecDepth 100000 in
theorem nodeOk140.calls (kr : Nat) (gt : Nat) (A : Option Addr) (c : Nat) (nodes : List S56) (B : Option Addr) (d : Nat) (tops : List Int) (i : Int) (tx nm : Bool) (w : World) (hT : TreeAt w gt A c nodes B d tops) (h0 : 0 ≤ i) (h1 : i < nodes.length)
    (htx : impl_textOk.f kr (rd_T56 nodes i).f0 (rd_T56 nodes i).f1 (rd_T56 nodes i).f2 (rd_T56 nodes i).f3 = some tx) (hnm : impl_numberOk.f (rd_T56 nodes i).f0 (rd_T56 nodes i).f1 (rd_T56 nodes i).f2 (rd_T56 nodes i).f3 = some nm) :
    Calls Try.prog 29 #[.pointer (some ⟨gt, 0, none⟩), .int .i64 i] w fun e w' => e = .returned (.bool (nodeV nodes i (tx && nm))) ∧ Below w.heap.size w w' := by
  have hu141 := Try.underlying56
  obtain ⟨nd, NA, nc, ead, hx0, hx1, hx2, hx3, hl3, hi3⟩ := at_T56 hT.hn i h0 h1
  cases ead
  unfold nodeV
  have hlen : (nodes.length : Int) ≤ 9223372036854775807 := by have := hT.hn.2.1; omega
  generalize rd_T56 nodes i = n at hx0 hx1 hx2 hx3 hl3 hi3 htx hnm ⊢
  obtain ⟨n0, n1, n2, n3⟩ := n
  dsimp only at hx0 hx1 hx2 hx3 hl3 hi3 htx hnm ⊢
  have hi9 : i ≤ 9223372036854775806 := by omega
  have k0 : w.cell? ⟨gt, 0, none⟩ = some (.slice (some nd) nodes.length c) := (blk_cell hT.own 0).trans rfl
  have HT := Aside0.mk hT
  have HTX := Aside0.mk htx
  have HNM := Aside0.mk hnm
  have HI3 := Aside0.mk hi3
  have HL3 := Aside0.mk hl3
  have HLEN := Aside0.mk h1
  have HM := Aside0.mk (show n3.length ≤ 9223372036854775807 from hi3.2.1)
  have p0 := eq_true h0
  have q0 := eq_true h1
  clear hT htx hnm hi3 hl3 h1 hlen
  go_enter Try.func29, Try.ntmps29
  go_wp2
  have hb1 : Below w.heap.size w (w.alloc (.cells #[.int .i64 n0, .string n1, .int .i64 n2, .slice NA n3.length nc] 56)) := below_alloc (Below.refl _ _) _
  have hc0 := bx0 w n0 n1 n2 (.slice NA n3.length nc)
  have hc1 := bx1 w n0 n1 n2 (.slice NA n3.length nc)
  have hc2 := bx2 w n0 n1 n2 (.slice NA n3.length nc)
  have hc3 := bx3 w n0 n1 n2 (.slice NA n3.length nc)
  generalize (w.alloc (.cells #[.int .i64 n0, .string n1, .int .i64 n2, .slice NA n3.length nc] 56)) = w1 at hb1 hc0 hc1 hc2 hc3 ⊢
  have HS : Aside0 (∀ w', Below w1.heap.size w1 w' → w'.cell? ⟨w.heap.size, 0, none⟩ = some (.int .i64 n0) ∧ w'.cell? ⟨w.heap.size, 1, none⟩ = some (.string n1) ∧ w'.cell? ⟨w.heap.size, 2, none⟩ = some (.int .i64 n2) ∧ w'.cell? ⟨w.heap.size, 3, none⟩ = some (.slice NA n3.length nc)) := ⟨fun w' h => ⟨pw_cell_below h hc0, pw_cell_below h hc1, pw_cell_below h hc2, pw_cell_below h hc3⟩⟩
  have HB1 := Aside0.mk hb1
  clear hb1 hc0 hc1 hc2 hc3 hx0 hx1 hx2 hx3
  go_loopg [18] n3.length (fun kq v18 w' => ∃ j : Nat, v18 = .int .i64 (j : Int) ∧ Aside0 (j + kq = n3.length) ∧ Aside0 ((n3.take j).all (fun k => decide (0 ≤ k ∧ k ≤ i - 1)) = true) ∧ Aside0 (Below w1.heap.size w1 w'))
  case atStart => exact ⟨0, rfl, ⟨by omega⟩, ⟨rfl⟩, ⟨Below.refl _ _⟩⟩
  case round =>
    obtain ⟨j, rfl, HX, HA, HB⟩ := hrel
    by_cases c1 : j < n3.length
    · have cb : decide ((j : Int) < (n3.length : Int)) = true := by simpa using c1
      obtain ⟨ad, ead, hx⟩ := Kd.at_int (Kd.C_below HI3.out (below_step HB1.out HB.out)) (j : Int) (by omega) (by omega)
      cases ead
      rw [Int.toNat_natCast] at hx
      have hrd : rd n3 (j : Int) = n3[j] := by
        unfold rd
        rw [Int.toNat_natCast, List.getD_eq_getElem?_getD, List.getElem?_eq_getElem c1]
        rfl
      have hall : (n3.take (j + 1)).all (fun k => decide (0 ≤ k ∧ k ≤ i - 1)) = decide (0 ≤ rd n3 (j : Int) ∧ rd n3 (j : Int) ≤ i - 1) := by
        rw [List.take_succ_eq_append_getElem c1, List.all_append, HA.out, hrd]
        simp only [List.all_cons, List.all_nil, Bool.and_true, Bool.true_and]
      have hsub : n3.all (fun k => decide (0 ≤ k ∧ k ≤ i - 1)) = true → decide (0 ≤ rd n3 (j : Int) ∧ rd n3 (j : Int) ≤ i - 1) = true := fun h => List.all_eq_true.1 h _ (by rw [hrd]; exact List.getElem_mem c1)
      generalize rd n3 (j : Int) = x at hx hall hsub
      have hw := within_dec x i
      have HALL := Aside0.mk hall
      have HSUB := Aside0.mk hsub
      clear hall hsub hrd
      cases hp : decide (0 ≤ x ∧ x ≤ i - 1) with
      | true =>
        rw [hp] at hw
        have HW := Aside0.mk hw
        have HP := Aside0.mk hp
        clear hp hw
        go_wp2_with (go_at_call 30; (with_reducible refine (impl_within.calls x 0 (i - 1) true _ HW.out).mono ?_); rintro e w5 ⟨rfl, hd⟩; obtain ⟨q, rfl⟩ := Drawn0.out hd)
        go_roundg (n3.length - (j + 1))
        case measure => have := HX.out; omega
        case rel => exact ⟨j + 1, (by first | rfl | rw [tW j (by have := HM.out; have := HX.out; omega)]), ⟨by have := HX.out; omega⟩, ⟨by rw [HALL.out]; exact HP.out⟩, ⟨pw_below_drewN HB.out _⟩⟩
      | false =>
        rw [hp] at hw
        have HW := Aside0.mk hw
        have HP := Aside0.mk hp
        clear hp hw
        go_wp2_with (go_at_call 30; (with_reducible refine (impl_within.calls x 0 (i - 1) false _ HW.out).mono ?_); rintro e w5 ⟨rfl, hd⟩; obtain ⟨q, rfl⟩ := Drawn0.out hd)
        go_ret
        refine ⟨?_, below_step HB1.out (pw_below_drewN HB.out _)⟩
        cases hk : n3.all (fun k => decide (0 ≤ k ∧ k ≤ i - 1)) with
        | false => rfl
        | true =>
          have := HSUB.out hk
          rw [HP.out] at this
          cases this
    · have cb : decide ((j : Int) < (n3.length : Int)) = false := by simpa using c1
      have ei : j = n3.length := by have := HX.out; omega
      subst ei
      rw [List.take_length] at HA
      have HNA : Aside0 (NodeAt w gt (some nd) c nodes B d tops NA n3) := ⟨⟨HT.out, HI3.out, fun x hx => by
        have := of_decide_eq_true (List.all_eq_true.1 HA.out x hx)
        have := HLEN.out
        omega⟩⟩
      have HBW := Aside0.mk (below_step HB1.out HB.out)
      have HCK : Aside0 (Kd.C (Kd.int .i64) wr NA n3.length n3) := ⟨Kd.C_below HI3.out HBW.out⟩
      have HS2 : Aside0 (∀ w', Below wr.heap.size wr w' → w'.cell? ⟨w.heap.size, 0, none⟩ = some (.int .i64 n0) ∧ w'.cell? ⟨w.heap.size, 1, none⟩ = some (.string n1) ∧ w'.cell? ⟨w.heap.size, 2, none⟩ = some (.int .i64 n2) ∧ w'.cell? ⟨w.heap.size, 3, none⟩ = some (.slice NA n3.length nc)) := ⟨fun w' h => HS.out w' (below_step HB.out h)⟩
      obtain ⟨d0, d1, d2, d3⟩ := HS2.out wr (Below.refl _ _)
      cases tx with
      | false =>
        go_wp2_with (go_at_call 43; (with_reducible refine (impl_textOk.calls kr n0 n1 n2 _ _ n3 false _ HCK.out HL3.out HTX.out).mono ?_); rintro e w5 ⟨rfl, hb5⟩)
        go_ret
        exact ⟨by rw [HA.out]; rfl, below_step HBW.out hb5⟩
      | true =>
        cases nm with
        | false =>
          go_wp2_with (first | (go_at_call 43; (with_reducible refine (impl_textOk.calls kr n0 n1 n2 _ _ n3 true _ HCK.out HL3.out HTX.out).mono ?_); rintro e w5 ⟨rfl, hb5⟩; obtain ⟨e0, e1, e2, e3⟩ := HS2.out w5 hb5; have HCK5 := Aside0.mk (Kd.C_below HCK.out hb5); have HB5 := Aside0.mk hb5; clear d0 d1 d2 d3 hb5) | (go_at_call 44; (with_reducible refine (impl_numberOk.calls n0 n1 n2 _ _ n3 false _ HCK5.out HL3.out HNM.out).mono ?_); rintro e w6 ⟨rfl, hb6⟩))
          go_ret
          exact ⟨by rw [HA.out]; rfl, below_step HBW.out (below_step HB5.out hb6)⟩
        | true =>
          have hx := isExpr_eq n0
          have hs := isStat_eq n0
          have hK : kidsGood nodes n0 n3 = if isExprV n0 then exprOkB nodes n0 n3 else if isStatV n0 then statOkB nodes n0 n3 else otherOkB nodes n0 n3 := rfl
          cases hp : isExprV n0 with
          | true =>
            rw [hp] at hx
            rw [hp, if_pos rfl] at hK
            have HK := Aside0.mk hK
            clear hK
            have HX1 := Aside0.mk hx
            obtain ⟨g1, g2⟩ := of_decide_eq_true hp
            have HG1 := Aside0.mk g1
            have HG2 := Aside0.mk g2
            clear hp hx hs g1 g2
            go_wp2_with (first | (go_at_call 43; (with_reducible refine (impl_textOk.calls kr n0 n1 n2 _ _ n3 true _ HCK.out HL3.out HTX.out).mono ?_); rintro e w5 ⟨rfl, hb5⟩; obtain ⟨e0, e1, e2, e3⟩ := HS2.out w5 hb5; have HCK5 := Aside0.mk (Kd.C_below HCK.out hb5); have HB5 := Aside0.mk hb5; clear d0 d1 d2 d3 hb5) | (go_at_call 44; (with_reducible refine (impl_numberOk.calls n0 n1 n2 _ _ n3 true _ HCK5.out HL3.out HNM.out).mono ?_); rintro e w6 ⟨rfl, hb6⟩; have HB6 := Aside0.mk (below_step HB5.out hb6); obtain ⟨f0, f1, f2, f3⟩ := HS2.out w6 HB6.out; clear e0 e1 e2 e3 hb6) | (go_at_call 45; (with_reducible refine (impl_isExpr.calls n0 true _ HX1.out).mono ?_); rintro e w7 ⟨rfl, hd⟩; obtain ⟨q, rfl⟩ := Drawn0.out hd) | (go_at_call 46; (with_reducible refine (exprOk.calls HNA.out (below_step HBW.out (pw_below_drewN HB6.out _)) HL3.out HG1.out HG2.out).mono ?_); rintro e w8 ⟨rfl, hb8⟩))
            go_ret
            exact ⟨by rw [HA.out, HK.out]; rfl, hb8⟩
          | false =>
            cases hq : isStatV n0 with
            | true =>
              rw [hp] at hx
              rw [hq] at hs
              rw [hp, if_neg Bool.false_ne_true, hq, if_pos rfl] at hK
              have HK := Aside0.mk hK
              clear hK
              have HX1 := Aside0.mk hx
              have HS1 := Aside0.mk hs
              obtain ⟨g1, g2⟩ := of_decide_eq_true hq
              have HG1 := Aside0.mk g1
              have HG2 := Aside0.mk g2
              clear hp hx hs g1 g2 hq
              go_wp2_with (first | (go_at_call 43; (with_reducible refine (impl_textOk.calls kr n0 n1 n2 _ _ n3 true _ HCK.out HL3.out HTX.out).mono ?_); rintro e w5 ⟨rfl, hb5⟩; obtain ⟨e0, e1, e2, e3⟩ := HS2.out w5 hb5; have HCK5 := Aside0.mk (Kd.C_below HCK.out hb5); have HB5 := Aside0.mk hb5; clear d0 d1 d2 d3 hb5) | (go_at_call 44; (with_reducible refine (impl_numberOk.calls n0 n1 n2 _ _ n3 true _ HCK5.out HL3.out HNM.out).mono ?_); rintro e w6 ⟨rfl, hb6⟩; have HB6 := Aside0.mk (below_step HB5.out hb6); obtain ⟨f0, f1, f2, f3⟩ := HS2.out w6 HB6.out; clear e0 e1 e2 e3 hb6) | (go_at_call 45; (with_reducible refine (impl_isExpr.calls n0 false _ HX1.out).mono ?_); rintro e w7 ⟨rfl, hd⟩; obtain ⟨q, rfl⟩ := Drawn0.out hd) | (go_at_call 47; (with_reducible refine (impl_isStatement.calls n0 true _ HS1.out).mono ?_); rintro e w9 ⟨rfl, hd⟩; obtain ⟨q2, rfl⟩ := Drawn0.out hd) | (go_at_call 48; (with_reducible refine (statOk.calls HNA.out (below_step HBW.out (by repeat (with_reducible first | exact HB6.out | apply pw_below_drewN | apply below_drew1))) HG1.out HG2.out).mono ?_); rintro e w8 ⟨rfl, hb8⟩))
              go_ret
              exact ⟨by rw [HA.out, HK.out]; rfl, hb8⟩
            | false =>
              rw [hp] at hx
              rw [hq] at hs
              rw [hp, if_neg Bool.false_ne_true, hq, if_neg Bool.false_ne_true] at hK
              have HK := Aside0.mk hK
              clear hK
              have HX1 := Aside0.mk hx
              have HS1 := Aside0.mk hs
              have HG1 : Aside0 (n0 < 1 ∨ 26 < n0) := ⟨by
                have a1 := of_decide_eq_false hp
                have a2 := of_decide_eq_false hq
                omega⟩
              clear hp hx hs hq
              go_wp2_with (first | (go_at_call 43; (with_reducible refine (impl_textOk.calls kr n0 n1 n2 _ _ n3 true _ HCK.out HL3.out HTX.out).mono ?_); rintro e w5 ⟨rfl, hb5⟩; obtain ⟨e0, e1, e2, e3⟩ := HS2.out w5 hb5; have HCK5 := Aside0.mk (Kd.C_below HCK.out hb5); have HB5 := Aside0.mk hb5; clear d0 d1 d2 d3 hb5) | (go_at_call 44; (with_reducible refine (impl_numberOk.calls n0 n1 n2 _ _ n3 true _ HCK5.out HL3.out HNM.out).mono ?_); rintro e w6 ⟨rfl, hb6⟩; have HB6 := Aside0.mk (below_step HB5.out hb6); obtain ⟨f0, f1, f2, f3⟩ := HS2.out w6 HB6.out; clear e0 e1 e2 e3 hb6) | (go_at_call 45; (with_reducible refine (impl_isExpr.calls n0 false _ HX1.out).mono ?_); rintro e w7 ⟨rfl, hd⟩; obtain ⟨q, rfl⟩ := Drawn0.out hd) | (go_at_call 47; (with_reducible refine (impl_isStatement.calls n0 false _ HS1.out).mono ?_); rintro e w9 ⟨rfl, hd⟩; obtain ⟨q2, rfl⟩ := Drawn0.out hd) | (go_at_call 49; (with_reducible refine (otherOk.calls HNA.out (below_step HBW.out (by repeat (with_reducible first | exact HB6.out | apply pw_below_drewN | apply below_drew1))) HL3.out HG1.out).mono ?_); rintro e w8 ⟨rfl, hb8⟩))
              go_ret
              exact ⟨by rw [HA.out, HK.out]; rfl, hb8⟩
def numKids (rec : Int → Int → Int) : List Int → Int → Int
  | [], a => a
  | k :: ks, a => if rec k a < 0 then -1 else numKids rec ks (rec k a)
def numB (nodes : List S56) : Nat → Int → Int → Int
  | 0, _, _ => -1
  | d + 1, i, a => if numKids (numB nodes d) (rd_T56 nodes i).f3 a < 0 then -1 else if i = numKids (numB nodes d) (rd_T56 nodes i).f3 a then numKids (numB nodes d) (rd_T56 nodes i).f3 a + 1 else -1
theorem numB_succ (nodes : List S56) (d : Nat) (i a : Int) : numB nodes (d + 1) i a = if numKids (numB nodes d) (rd_T56 nodes i).f3 a < 0 then -1 else if i = numKids (numB nodes d) (rd_T56 nodes i).f3 a then numKids (numB nodes d) (rd_T56 nodes i).f3 a + 1 else -1 := rfl
theorem numB_in (nodes : List S56) (d : Nat) (i a : Int) (h0 : 0 ≤ i) : -1 ≤ numB nodes d i a ∧ numB nodes d i a ≤ i + 1 := by
  cases d with
  | zero =>
    have : numB nodes 0 i a = -1 := rfl
    omega
  | succ d =>
    rw [numB_succ]
    split
    · omega
    · split <;> omega
set_option maxHeartbeats 8000000 in
set_option maxRecDepth 100000 in
theorem numbered141.calls (gt : Nat) (A : Option Addr) (c : Nat) (nodes : List S56) (B : Option Addr) (d : Nat) (tops : List Int) (hlen : nodes.length ≤ 4000) (hok : ∀ j : Int, 0 ≤ j → j < nodes.length → ∀ k ∈ (rd_T56 nodes j).f3, 0 ≤ k ∧ k ≤ j - 1) : ∀ (dd : Nat) (i a : Int) (w : World), i.toNat < dd → 0 ≤ i → i < nodes.length → 0 ≤ a → TreeAt w gt A c nodes B d tops →
    Calls Try.prog 31 #[.pointer (some ⟨gt, 0, none⟩), .int .i64 i, .int .i64 a] w fun e w' => e = .returned (.int .i64 (numB nodes dd i a)) ∧ Below w.heap.size w w' := by
  intro dd
  induction dd with
  | zero => intro i a w h; omega
  | succ dd ih =>
    intro i a w hd h0 h1 ha hT
    have hu141 := Try.underlying56
    have hkids := hok i h0 h1
    rw [numB_succ]
    obtain ⟨nd, NA, nc, ead, hx0, hx1, hx2, hx3, hl3, hi3⟩ := at_T56 hT.hn i h0 h1
    cases ead
    generalize (rd_T56 nodes i).f3 = n3 at hx3 hl3 hi3 hkids ⊢
    obtain ⟨R, hR⟩ : ∃ R : Int, R = if numKids (numB nodes dd) n3 a < 0 then -1 else if i = numKids (numB nodes dd) n3 a then numKids (numB nodes dd) n3 a + 1 else -1 := ⟨_, rfl⟩
    rw [← hR]
    have HR := Aside0.mk hR
    clear hR
    have k0 : w.cell? ⟨gt, 0, none⟩ = some (.slice (some nd) nodes.length c) := (blk_cell hT.own 0).trans rfl
    have HT := Aside0.mk hT
    have HI3 := Aside0.mk hi3
    have HK := Aside0.mk hkids
    have HD := Aside0.mk hd
    have HLEN := Aside0.mk h1
    have HL4 := Aside0.mk hlen
    have HA0 := Aside0.mk ha
    have HM := Aside0.mk (show n3.length ≤ 9223372036854775807 from hi3.2.1)
    have IH := Aside0.mk ih
    have hi9 : i ≤ 4000 := by omega
    have p0 := eq_true h0
    have q0 := eq_true h1
    clear hT hi3 hkids hd h1 hlen hl3 ih hok hx0 hx1 hx2 ha
    go_enter Try.func31, Try.ntmps31
    go_wp2
    go_loopg [2, 18] n3.length (fun kq v2 v18 w' => ∃ (j : Nat) (b : Int), v18 = .int .i64 (j : Int) ∧ v2 = .int .i64 b ∧ Aside0 (j + kq = n3.length) ∧ Aside0 (0 ≤ b ∧ b ≤ 4001 ∨ j = 0 ∧ b = a) ∧ Aside0 (numKids (numB nodes dd) (n3.drop j) b = numKids (numB nodes dd) n3 a) ∧ Aside0 (Below w.heap.size w w'))
    case atStart => exact ⟨0, a, rfl, rfl, ⟨by omega⟩, ⟨Or.inr ⟨rfl, rfl⟩⟩, ⟨rfl⟩, ⟨Below.refl _ _⟩⟩
    case round =>
      obtain ⟨j, b, rfl, rfl, HX, HBB, HN, HB⟩ := hrel
      have HB0 : Aside0 (0 ≤ b) := ⟨by
        rcases HBB.out with h | h
        · exact h.1
        · rw [h.2]; exact HA0.out⟩
      by_cases c1 : j < n3.length
      · have cb : decide ((j : Int) < (n3.length : Int)) = true := by simpa using c1
        obtain ⟨ad, ead, hx⟩ := Kd.at_int (Kd.C_below HI3.out HB.out) (j : Int) (by omega) (by omega)
        cases ead
        rw [Int.toNat_natCast] at hx
        have hrd : rd n3 (j : Int) = n3[j] := by
          unfold rd
          rw [Int.toNat_natCast, List.getD_eq_getElem?_getD, List.getElem?_eq_getElem c1]
          rfl
        have hn := HN.out
        rw [List.drop_eq_getElem_cons c1, ← hrd] at hn
        have hk := HK.out (rd n3 (j : Int)) (by rw [hrd]; exact List.getElem_mem c1)
        generalize rd n3 (j : Int) = x at hx hn hk
        have hc := IH.out x b wr (by have := HD.out; omega) hk.1 (by have := HLEN.out; omega) HB0.out (HT.out.below HB.out)
        have hin := numB_in nodes dd x b hk.1
        have hnk : numKids (numB nodes dd) (x :: n3.drop (j + 1)) b = if numB nodes dd x b < 0 then -1 else numKids (numB nodes dd) (n3.drop (j + 1)) (numB nodes dd x b) := rfl
        rw [hnk] at hn
        generalize numB nodes dd x b = r at hc hin hn
        have HHN := Aside0.mk hn
        have HC := Aside0.mk hc
        have hr2 : r ≤ 4001 := by have := HLEN.out; have := HL4.out; omega
        have HR2 := Aside0.mk hr2
        clear hn hnk hc hrd hr2 hk hin
        by_cases cr : r < 0
        · have cbr : decide (r < 0) = true := decide_eq_true cr
          have hres : numKids (numB nodes dd) n3 a = -1 := by
            have h := HHN.out
            rw [if_pos cr] at h
            exact h.symm
          have HRES := Aside0.mk hres
          clear hres cr
          go_wp2_with (go_at_call 31; (with_reducible refine (HC.out).mono ?_); rintro e w5 ⟨rfl, hb5⟩)
          go_ret
          exact ⟨by rw [HR.out, HRES.out]; rfl, below_step HB.out hb5⟩
        · have cbr : decide (r < 0) = false := decide_eq_false cr
          have h := HHN.out
          rw [if_neg cr] at h
          have HH := Aside0.mk h
          have HCR := Aside0.mk cr
          clear h cr
          go_wp2_with (go_at_call 31; (with_reducible refine (HC.out).mono ?_); rintro e w5 ⟨rfl, hb5⟩)
          go_roundg (n3.length - (j + 1))
          case measure => have := HX.out; omega
          case rel => exact ⟨j + 1, r, (by first | rfl | rw [tW j (by have := HM.out; have := HX.out; omega)]), rfl, ⟨by have := HX.out; omega⟩, ⟨Or.inl ⟨by have := HCR.out; omega, HR2.out⟩⟩, HH, ⟨below_step HB.out hb5⟩⟩
      · have cb : decide ((j : Int) < (n3.length : Int)) = false := by simpa using c1
        have ej : j = n3.length := by have := HX.out; omega
        have hn := HN.out
        rw [ej, List.drop_length] at hn
        have hn2 : b = numKids (numB nodes dd) n3 a := hn
        have HN2 := Aside0.mk hn2
        clear hn hn2
        by_cases ci : i = b
        · have hb9 : b ≤ 4000 := by omega
          have cbi : (i != b) = false := bne_eq_false_iff_eq.2 ci
          have CI := Aside0.mk ci
          have hbb := HB0.out
          clear ci
          go_wp2
          go_ret
          exact ⟨by rw [HR.out, ← HN2.out, if_neg (by have := HB0.out; omega), if_pos CI.out]; rfl, HB.out⟩
        · have cbi : (i != b) = true := bne_iff_ne.2 ci
          have CI := Aside0.mk ci
          clear ci
          go_wp2
          go_ret
          exact ⟨by rw [HR.out, ← HN2.out, if_neg (by have := HB0.out; omega), if_neg CI.out]; rfl, HB.out⟩
def nodeOkB (nodes : List S56) (hasT : S56 → Bool) (i : Int) : Bool :=
  (rd_T56 nodes i).f3.all (fun k => decide (0 ≤ k ∧ k ≤ i - 1)) && hasT (rd_T56 nodes i) && kidsGood nodes (rd_T56 nodes i).f0 (rd_T56 nodes i).f3
def topsI (nodes : List S56) : List Int → Int → Int
  | [], a => a
  | i :: is, a => if ¬ (0 ≤ i ∧ i < nodes.length) ∨ (rd_T56 nodes i).f0 < 33 then -1 else if numB nodes (i.toNat + 1) i a < 0 then -1 else topsI nodes is (numB nodes (i.toNat + 1) i a)
def treeOkI (nodes : List S56) (hasT : S56 → Bool) (tops : List Int) : Bool :=
  decide (nodes.length ≤ 4000) && (List.range nodes.length).all (fun i => nodeOkB nodes hasT (i : Int)) && decide (topsI nodes tops 0 = nodes.length)
def impl_hasS (k : Nat) (n : S56) : Bool := (impl_textOk.f k n.f0 n.f1 n.f2 n.f3).isSome && (impl_numberOk.f n.f0 n.f1 n.f2 n.f3).isSome
def impl_hasT (k : Nat) (n : S56) : Bool := (impl_textOk.f k n.f0 n.f1 n.f2 n.f3).getD false && (impl_numberOk.f n.f0 n.f1 n.f2 n.f3).getD false
def impl_TreeOk.f (k : Nat) (l0_0 : List S56) (l0_1 : List Int) : Option Bool :=
  if l0_0.length > 4000 then some false else if l0_0.all (impl_hasS k) = true then some (treeOkI l0_0 (impl_hasT k) l0_1) else none
theorem treeOkI_congr {nodes : List S56} {f g : S56 → Bool} (h : ∀ n ∈ nodes, f n = g n) (tops : List Int) : treeOkI nodes f tops = treeOkI nodes g tops := by
  unfold treeOkI
  have : (List.range nodes.length).all (fun i => nodeOkB nodes f (i : Int)) = (List.range nodes.length).all (fun i => nodeOkB nodes g (i : Int)) := by
    rw [Bool.eq_iff_iff, List.all_eq_true, List.all_eq_true]
    have key : ∀ i ∈ List.range nodes.length, nodeOkB nodes f (i : Int) = nodeOkB nodes g (i : Int) := fun i hi => by
      have hi := List.mem_range.1 hi
      have hm : rd_T56 nodes (i : Int) ∈ nodes := by
        unfold rd_T56
        rw [Int.toNat_natCast, List.getD_eq_getElem?_getD, List.getElem?_eq_getElem hi]
        exact List.getElem_mem hi
      unfold nodeOkB
      rw [h _ hm]
    exact ⟨fun H i hi => by rw [← key i hi]; exact H i hi, fun H i hi => by rw [key i hi]; exact H i hi⟩
  rw [this]
set_option maxHeartbeats 8000000 in
set_option maxRecDepth 100000 in
theorem impl_TreeOk.calls (k : Nat) (A0_0 : Option Addr) (c0_0 : Nat) (l0_0 : List S56) (A0_1 : Option Addr) (c0_1 : Nat) (l0_1 : List Int) (r : Bool) (w : World) (hr0_0 : Kd.C k56 w A0_0 l0_0.length l0_0) (hc0_0 : l0_0.length ≤ c0_0) (hr0_1 : Kd.C (Kd.int .i64) w A0_1 l0_1.length l0_1) (hc0_1 : l0_1.length ≤ c0_1) (h : impl_TreeOk.f k l0_0 l0_1 = some r) :
    Calls Try.prog 17 #[.agg #[.slice A0_0 l0_0.length c0_0, .slice A0_1 l0_1.length c0_1]] w fun e w' => e = .returned (.bool r) ∧ Below w.heap.size w w' := by
  have hu141 := Try.underlying56
  have hu59 := Try.underlying29
  have HB := Aside0.mk (Below.refl w.heap.size w)
  unfold impl_TreeOk.f at h
  by_cases c1 : l0_0.length > 4000
  · rw [if_pos c1] at h
    injection h with h
    subst h
    have cb : decide ((l0_0.length : Int) > 4000) = true := decide_eq_true (by omega)
    have cb2 : decide ((4000 : Int) < (l0_0.length : Int)) = true := decide_eq_true (by omega)
    clear c1 hr0_0 hr0_1
    go_enter Try.func17, Try.ntmps17
    go_wp2
    go_ret
    exact ⟨rfl, by repeat (first | exact HB.out | apply below_alloc | apply pw_below_drewN | apply below_drew1)⟩
  rw [if_neg c1] at h
  split at h
  rotate_left
  · cases h
  next hS =>
  injection h with h
  have hall := List.all_eq_true.1 hS
  have hlen : l0_0.length ≤ 4000 := by omega
  have cb : decide ((l0_0.length : Int) > 4000) = false := decide_eq_false (by omega)
  have cb2 : decide ((4000 : Int) < (l0_0.length : Int)) = false := decide_eq_false (by omega)
  have HR := Aside0.mk h
  have HALL := Aside0.mk hall
  have HLEN := Aside0.mk hlen
  have HR0 := Aside0.mk hr0_0
  have HR1 := Aside0.mk hr0_1
  have HC0 := Aside0.mk hc0_0
  have HC1 := Aside0.mk hc0_1
  have hl9 : (l0_0.length : Int) ≤ 4000 := by omega
  clear h hall hS c1 hr0_0 hr0_1 hc0_0 hc0_1 hlen
  go_enter Try.func17, Try.ntmps17
  go_wp2
  have hb1 : Below w.heap.size w (w.alloc (.cells #[.slice A0_0 l0_0.length c0_0, .slice A0_1 l0_1.length c0_1] 29)) := below_alloc (Below.refl _ _) _
  have hT : TreeAt (w.alloc (.cells #[.slice A0_0 l0_0.length c0_0, .slice A0_1 l0_1.length c0_1] 29)) w.heap.size A0_0 c0_0 l0_0 A0_1 c0_1 l0_1 := ⟨blk_new w _, Kd.C_below HR0.out hb1, Kd.C_below HR1.out hb1, HC0.out, HC1.out⟩
  generalize (w.alloc (.cells #[.slice A0_0 l0_0.length c0_0, .slice A0_1 l0_1.length c0_1] 29)) = w1 at hb1 hT ⊢
  have HT := Aside0.mk hT
  have HB1 := Aside0.mk hb1
  have HKA : Aside0 (∀ w', Below w1.heap.size w1 w' → w'.cell? ⟨w.heap.size, 0, none⟩ = some (.slice A0_0 l0_0.length c0_0) ∧ w'.cell? ⟨w.heap.size, 1, none⟩ = some (.slice A0_1 l0_1.length c0_1)) := ⟨fun w' hb => ⟨(blk_cell (hT.below hb).own 0).trans rfl, (blk_cell (hT.below hb).own 1).trans rfl⟩⟩
  generalize w.heap.size = gt at HT HKA ⊢
  clear hT hb1
  go_loopg [14] l0_0.length (fun kq v14 w' => ∃ j : Nat, v14 = .int .i64 (j : Int) ∧ Aside0 (j + kq = l0_0.length) ∧ Aside0 ((List.range j).all (fun i => nodeOkB l0_0 (impl_hasT k) (i : Int)) = true) ∧ Aside0 (Below w1.heap.size w1 w'))
  case atStart => exact ⟨0, rfl, ⟨by omega⟩, ⟨rfl⟩, ⟨Below.refl _ _⟩⟩
  case round =>
    obtain ⟨j, rfl, HX, HA, HBB⟩ := hrel
    by_cases c1 : j < l0_0.length
    · have cbj : decide ((j : Int) < (l0_0.length : Int)) = true := by simpa using c1
      have hmem : rd_T56 l0_0 (j : Int) ∈ l0_0 := by
        unfold rd_T56
        rw [Int.toNat_natCast, List.getD_eq_getElem?_getD, List.getElem?_eq_getElem c1]
        exact List.getElem_mem c1
      have hs := HALL.out _ hmem
      unfold impl_hasS at hs
      rw [Bool.and_eq_true] at hs
      obtain ⟨tx, htx⟩ := Option.isSome_iff_exists.1 hs.1
      obtain ⟨nm, hnm⟩ := Option.isSome_iff_exists.1 hs.2
      have hv : nodeOkB l0_0 (impl_hasT k) (j : Int) = nodeV l0_0 (j : Int) (tx && nm) := by
        unfold nodeOkB nodeV impl_hasT
        rw [htx, hnm]
        rfl
      have hc := nodeOk140.calls k gt A0_0 c0_0 l0_0 A0_1 c0_1 l0_1 (j : Int) tx nm wr (HT.out.below HBB.out) (by omega) (by omega) htx hnm
      rw [← hv] at hc
      clear htx hnm hs hmem hv
      have hr : (List.range (j + 1)).all (fun i => nodeOkB l0_0 (impl_hasT k) (i : Int)) = nodeOkB l0_0 (impl_hasT k) (j : Int) := by
        rw [List.range_succ, List.all_append, HA.out, Bool.true_and]
        simp only [List.all_cons, List.all_nil, Bool.and_true]
      have hsub : (List.range l0_0.length).all (fun i => nodeOkB l0_0 (impl_hasT k) (i : Int)) = true → nodeOkB l0_0 (impl_hasT k) (j : Int) = true := fun h => List.all_eq_true.1 h j (List.mem_range.2 c1)
      have HRR := Aside0.mk hr
      have HSUB := Aside0.mk hsub
      clear hr hsub
      cases hp : nodeOkB l0_0 (impl_hasT k) (j : Int) with
      | true =>
        rw [hp] at hc
        have HP := Aside0.mk hp
        have HC := Aside0.mk hc
        clear hp hc
        go_wp2_with (go_at_call 29; (with_reducible refine (HC.out).mono ?_); rintro e w5 ⟨rfl, hb5⟩)
        go_roundg (l0_0.length - (j + 1))
        case measure => have := HX.out; omega
        case rel => exact ⟨j + 1, (by first | rfl | rw [tW j (by have := HLEN.out; have := HX.out; omega)]), ⟨by have := HX.out; omega⟩, ⟨by rw [HRR.out]; exact HP.out⟩, ⟨below_step HBB.out hb5⟩⟩
      | false =>
        rw [hp] at hc
        have HP := Aside0.mk hp
        have HC := Aside0.mk hc
        clear hp hc
        go_wp2_with (go_at_call 29; (with_reducible refine (HC.out).mono ?_); rintro e w5 ⟨rfl, hb5⟩)
        go_ret
        refine ⟨?_, below_step HB1.out (below_step HBB.out hb5)⟩
        have hr : r = false := by
          rw [← HR.out]
          cases hk : (List.range l0_0.length).all (fun i => nodeOkB l0_0 (impl_hasT k) (i : Int)) with
          | false => unfold treeOkI; rw [hk]; simp
          | true =>
            have := HSUB.out hk
            rw [HP.out] at this
            cases this
        rw [hr]
        rfl
    · have cbj : decide ((j : Int) < (l0_0.length : Int)) = false := by simpa using c1
      have ej : j = l0_0.length := by have := HX.out; omega
      subst ej
      have hR2 : decide (topsI l0_0 l0_1 0 = l0_0.length) = r := by
        rw [← HR.out]
        unfold treeOkI
        rw [HA.out, decide_eq_true HLEN.out]
        simp
      have HR2 := Aside0.mk hR2
      have hok : ∀ j : Int, 0 ≤ j → j < l0_0.length → ∀ x ∈ (rd_T56 l0_0 j).f3, 0 ≤ x ∧ x ≤ j - 1 := fun j h0 h1 x hx => by
        have h := List.all_eq_true.1 HA.out j.toNat (List.mem_range.2 (by omega))
        rw [show ((j.toNat : Nat) : Int) = j by omega] at h
        unfold nodeOkB at h
        rw [Bool.and_eq_true, Bool.and_eq_true] at h
        exact of_decide_eq_true (List.all_eq_true.1 h.1.1 x hx)
      have HOK := Aside0.mk hok
      have HM := Aside0.mk (show l0_1.length ≤ 9223372036854775807 from HR1.out.2.1)
      have HKB : Aside0 (∀ w', Below wr.heap.size wr w' → w'.cell? ⟨gt, 0, none⟩ = some (.slice A0_0 l0_0.length c0_0) ∧ w'.cell? ⟨gt, 1, none⟩ = some (.slice A0_1 l0_1.length c0_1)) := ⟨fun w' hb => HKA.out w' (below_step HBB.out hb)⟩
      have HBW := Aside0.mk (below_step HB1.out HBB.out)
      have HTB := Aside0.mk (HT.out.below HBB.out)
      clear hR2 hok HA HKA HALL HX HT HB HB1 HBB
      obtain ⟨d0, d1⟩ := HKB.out wr (Below.refl _ _)
      go_wp2
      clear d0 d1
      go_loopg [4, 24] l0_1.length (fun kq v4 v24 w' => ∃ (j : Nat) (a : Int), v24 = .int .i64 (j : Int) ∧ v4 = .int .i64 a ∧ Aside0 (j + kq = l0_1.length) ∧ Aside0 (0 ≤ a ∧ a ≤ 4001) ∧ Aside0 (topsI l0_0 (l0_1.drop j) a = topsI l0_0 l0_1 0) ∧ Aside0 (Below wr.heap.size wr w'))
      case atStart => exact ⟨0, 0, rfl, rfl, ⟨by omega⟩, ⟨by omega⟩, ⟨rfl⟩, ⟨Below.refl _ _⟩⟩
      case round =>
        obtain ⟨j, a, rfl, rfl, HX, HA, HN, HB⟩ := hrel
        obtain ⟨d0, d1⟩ := HKB.out wr HB.out
        have hneg : topsI l0_0 l0_1 0 = -1 → r = false := fun h => by
          rw [← HR2.out, h]
          exact decide_eq_false (by omega)
        have HNEG := Aside0.mk hneg
        clear hneg
        by_cases c1 : j < l0_1.length
        · have cbj : decide ((j : Int) < (l0_1.length : Int)) = true := by simpa using c1
          obtain ⟨ad, ead, hx⟩ := Kd.at_int (Kd.C_below HR1.out (below_step HBW.out HB.out)) (j : Int) (by omega) (by omega)
          cases ead
          rw [Int.toNat_natCast] at hx
          have hrd : rd l0_1 (j : Int) = l0_1[j] := by
            unfold rd
            rw [Int.toNat_natCast, List.getD_eq_getElem?_getD, List.getElem?_eq_getElem c1]
            rfl
          have hn := HN.out
          rw [List.drop_eq_getElem_cons c1, ← hrd] at hn
          generalize rd l0_1 (j : Int) = x at hx hn
          have hn2 : (if ¬ (0 ≤ x ∧ x < l0_0.length) ∨ (rd_T56 l0_0 x).f0 < 33 then -1 else if numB l0_0 (x.toNat + 1) x a < 0 then -1 else topsI l0_0 (l0_1.drop (j + 1)) (numB l0_0 (x.toNat + 1) x a)) = topsI l0_0 l0_1 0 := hn
          have HN2 := Aside0.mk hn2
          clear hn hn2 hrd
          by_cases cw : 0 ≤ x ∧ x < l0_0.length
          · have hw : impl_within.f x 0 ((l0_0.length : Int) - 1) = some true := by
              unfold impl_within.f
              rw [if_pos cw.1, decide_eq_true (by omega)]
            obtain ⟨p0, q0⟩ := cw
            obtain ⟨nd, NA, nc, end_, hy, _⟩ := at_T56 (HTB.out.below HB.out).hn x p0 q0
            cases end_
            have HCW := Aside0.mk (show 0 ≤ x ∧ x < l0_0.length from ⟨p0, q0⟩)
            have HW := Aside0.mk hw
            have hc := numbered141.calls gt (some nd) c0_0 l0_0 (some ad) c0_1 l0_1 HLEN.out HOK.out (x.toNat + 1) x a
            have hin := numB_in l0_0 (x.toNat + 1) x a p0
            replace p0 := eq_true p0
            replace q0 := eq_true q0
            have HN3 := HN2.out
            generalize (rd_T56 l0_0 x).f0 = y at hy HN3
            generalize numB l0_0 (x.toNat + 1) x a = rr at hc hin HN3
            have hr2 : rr ≤ 4001 := by have := HCW.out; have := HLEN.out; omega
            have HC : Aside0 (∀ W, Below wr.heap.size wr W → Calls Try.prog 31 #[.pointer (some ⟨gt, 0, none⟩), .int .i64 x, .int .i64 a] W fun e w' => e = .returned (.int .i64 rr) ∧ Below W.heap.size W w') := ⟨fun W hb => hc W (by omega) HCW.out.1 HCW.out.2 HA.out.1 ((HTB.out.below HB.out).below hb)⟩
            clear hw hc
            by_cases ck : y < 33
            · have cbk : decide (y < 33) = true := decide_eq_true ck
              have hr := HNEG.out (by rw [if_pos (Or.inr ck)] at HN3; exact HN3.symm)
              have HRF := Aside0.mk hr
              clear ck hr HN3 hin hr2
              go_wp2_with (go_at_call 30; (with_reducible refine (impl_within.calls x 0 ((l0_0.length : Int) - 1) true _ HW.out).mono ?_); rintro e w5 ⟨rfl, hd⟩; obtain ⟨q, rfl⟩ := Drawn0.out hd)
              go_ret
              exact ⟨by rw [HRF.out]; rfl, below_step HBW.out (by repeat (with_reducible first | exact HB.out | apply pw_below_drewN | apply below_drew1))⟩
            · have cbk : decide (y < 33) = false := decide_eq_false ck
              rw [if_neg (by intro h; rcases h with h | h; exact h HCW.out; exact ck h)] at HN3
              by_cases cr : rr < 0
              · have cbr : decide (rr < 0) = true := decide_eq_true cr
                have hr := HNEG.out (by rw [if_pos cr] at HN3; exact HN3.symm)
                have HRF := Aside0.mk hr
                clear ck hr HN3 hin hr2 cr
                go_wp2_with (first | (go_at_call 30; (with_reducible refine (impl_within.calls x 0 ((l0_0.length : Int) - 1) true _ HW.out).mono ?_); rintro e w5 ⟨rfl, hd⟩; obtain ⟨q, rfl⟩ := Drawn0.out hd) | (go_at_call 31; (with_reducible refine (HC.out _ (by repeat (with_reducible first | exact Below.refl _ _ | apply pw_below_drewN | apply below_drew1))).mono ?_); rintro e w6 ⟨rfl, hb6⟩))
                go_ret
                exact ⟨by rw [HRF.out]; rfl, below_step HBW.out (below_step (pw_below_drewN HB.out _) hb6)⟩
              · have cbr : decide (rr < 0) = false := decide_eq_false cr
                rw [if_neg cr] at HN3
                have HN4 := Aside0.mk HN3
                have HRI : Aside0 (0 ≤ rr ∧ rr ≤ 4001) := ⟨by omega⟩
                clear ck HN3 hin hr2 cr
                go_wp2_with (first | (go_at_call 30; (with_reducible refine (impl_within.calls x 0 ((l0_0.length : Int) - 1) true _ HW.out).mono ?_); rintro e w5 ⟨rfl, hd⟩; obtain ⟨q, rfl⟩ := Drawn0.out hd) | (go_at_call 31; (with_reducible refine (HC.out _ (by repeat (with_reducible first | exact Below.refl _ _ | apply pw_below_drewN | apply below_drew1))).mono ?_); rintro e w6 ⟨rfl, hb6⟩))
                go_roundg (l0_1.length - (j + 1))
                case measure => have := HX.out; omega
                case rel => exact ⟨j + 1, rr, (by first | rfl | rw [tW j (by have := HM.out; have := HX.out; omega)]), rfl, ⟨by have := HX.out; omega⟩, HRI, HN4, ⟨below_step (pw_below_drewN HB.out _) hb6⟩⟩
          · have hw : impl_within.f x 0 ((l0_0.length : Int) - 1) = some false := by
              unfold impl_within.f
              by_cases h0 : x ≥ 0
              · rw [if_pos h0, decide_eq_false (by omega)]
              · rw [if_neg h0]
            have HW := Aside0.mk hw
            have hr := HNEG.out (by have h := HN2.out; rw [if_pos (Or.inl cw)] at h; exact h.symm)
            have HRF := Aside0.mk hr
            clear hw hr cw
            go_wp2_with (go_at_call 30; (with_reducible refine (impl_within.calls x 0 ((l0_0.length : Int) - 1) false _ HW.out).mono ?_); rintro e w5 ⟨rfl, hd⟩; obtain ⟨q, rfl⟩ := Drawn0.out hd)
            go_ret
            exact ⟨by rw [HRF.out]; rfl, below_step HBW.out (by repeat (with_reducible first | exact HB.out | apply pw_below_drewN | apply below_drew1))⟩
        · have cbj : decide ((j : Int) < (l0_1.length : Int)) = false := by simpa using c1
          have ej : j = l0_1.length := by have := HX.out; omega
          have hn := HN.out
          rw [ej, List.drop_length] at hn
          have hn2 : a = topsI l0_0 l0_1 0 := hn
          have hr : r = (a == (l0_0.length : Int)) := by
            rw [← HR2.out, ← hn2]
            rw [Bool.eq_iff_iff]
            simp
          have HRF := Aside0.mk hr
          clear hn hn2 hr
          go_wp2
          go_ret
          exact ⟨by rw [HRF.out]; rfl, below_step HBW.out HB.out⟩

end Go.Proofs.Ytiiakeakfllpjaa.PFnExactFold
