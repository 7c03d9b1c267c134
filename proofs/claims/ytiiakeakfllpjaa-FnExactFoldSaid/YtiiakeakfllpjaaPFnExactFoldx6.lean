-- written by wip/tools/myprint.py out of the program's own print
import Derived.Test.YtiiakeakfllpjaaPFnExactFoldx0
import Derived.Test.YtiiakeakfllpjaaPFnExactFoldx1
import Derived.Test.YtiiakeakfllpjaaPFnExactFoldx2
import Derived.Test.YtiiakeakfllpjaaPFnExactFoldx5
namespace Go.Proofs.Ytiiakeakfllpjaa.PFnExactFold
open Go.Proofs.Ytiiakeakfllpjaa.Own (rS cS bS rB rN rT kS kC kc10 kf10)
open Go.RowKit Go.Proofs.YtiiakeakfllpjaaW.PrintWords Go.Proofs.YtiiakeakfllpjaaW.PrintLast Go.Proofs.YtiiakeakfllpjaaW.PrintMore
attribute [local go_sem] max2_int min2_int max_two min_two max_three min_three max_four min_four   -- for this text's walks alone
set_option linter.unusedVariables false
set_option linter.unusedSimpArgs false

-- NOT PRINTED: function 26 (spec_l8Fits)

/-! ### spec_TreeOk: function 13 -/
theorem sTW (i : Nat) (h : i ≤ 9223372036854775806) : wrap64 ((i : Int) + 1) = ((i + 1 : Nat) : Int) := by
  unfold wrap64
  omega
theorem sbx0 (w : World) (k : Int) (s : ByteArray) (v : Int) (u : Value) : (w.alloc (.cells #[.int .i64 k, .string s, .int .i64 v, u] 56)).cell? ⟨w.heap.size, 0, none⟩ = some (.int .i64 k) := by simp
theorem sbx1 (w : World) (k : Int) (s : ByteArray) (v : Int) (u : Value) : (w.alloc (.cells #[.int .i64 k, .string s, .int .i64 v, u] 56)).cell? ⟨w.heap.size, 1, none⟩ = some (.string s) := by simp
theorem sbx2 (w : World) (k : Int) (s : ByteArray) (v : Int) (u : Value) : (w.alloc (.cells #[.int .i64 k, .string s, .int .i64 v, u] 56)).cell? ⟨w.heap.size, 2, none⟩ = some (.int .i64 v) := by simp
theorem sbx3 (w : World) (k : Int) (s : ByteArray) (v : Int) (u : Value) : (w.alloc (.cells #[.int .i64 k, .string s, .int .i64 v, u] 56)).cell? ⟨w.heap.size, 3, none⟩ = some u := by simp
def bA (l : List Bool) : Array Value := (l.map Value.bool).toArray
theorem bA_get (l : List Bool) (i : Nat) (h : i < l.length) : (bA l)[i]? = some (.bool (l.getD i false)) := by
  unfold bA
  rw [List.getElem?_toArray, List.getElem?_map, List.getElem?_eq_getElem h, List.getD_eq_getElem?_getD, List.getElem?_eq_getElem h]
  rfl
theorem bA_set (l : List Bool) (t : Nat) (x : Bool) : (bA l).setIfInBounds t (.bool x) = bA (l.set t x) := by
  unfold bA
  rw [List.map_set]
  apply Array.toList_inj.1
  simp
def rightC (cls kind c : Int) : Bool := if c = 10 then kind == 7 else cls == c && c != 0
def fitsKids (rec : Int → Int → Int → List Bool → Option (Int × List Bool)) (i : Int) : List Int → List Int → Int → List Bool → Option (Int × List Bool)
  | k :: ks, c :: cs, a, s => if k ≥ i then none else match rec k c a s with
    | none => none
    | some (b, s') => fitsKids rec i ks cs b s'
  | _, _, a, s => some (a, s)
structure Sp where
  cls : S56 → Int
  shape : S56 → List Int × Bool
  has : S56 → Bool
def fitsG (nodes : List S56) (sp : Sp) : Nat → Int → Int → Int → List Bool → Option (Int × List Bool)
  | 0, _, _, _, _ => none
  | d + 1, i, c, a, s =>
    if ¬ (0 ≤ i ∧ i < nodes.length) then none
    else if s.getD i.toNat false = true then none
    else if rightC (sp.cls (rd_T56 nodes i)) (rd_T56 nodes i).f0 c = true ∧ (sp.shape (rd_T56 nodes i)).2 = true ∧ sp.has (rd_T56 nodes i) = true then
      match fitsKids (fitsG nodes sp d) i (rd_T56 nodes i).f3 (sp.shape (rd_T56 nodes i)).1 a (s.set i.toNat true) with
      | none => none
      | some (b, s') => if b = i then some (b + 1, s') else none
    else none
theorem fitsG_in {nodes : List S56} {sp : Sp} {d : Nat} {i c a : Int} {s : List Bool} {b : Int} {s' : List Bool} (h : fitsG nodes sp d i c a s = some (b, s')) : 0 ≤ i ∧ i < nodes.length ∧ b = i + 1 := by
  cases d with
  | zero => cases h
  | succ d =>
    unfold fitsG at h
    split at h
    · cases h
    next h1 =>
    split at h
    · cases h
    split at h
    rotate_left
    · cases h
    split at h
    · cases h
    split at h
    rotate_left
    · cases h
    next hb =>
    cases h
    simp only [Classical.not_not] at h1
    omega
def FitsPost (o : Option (Int × List Bool)) (n gs : Nat) (w0 w : World) (e : Ending) (w' : World) : Prop :=
  ∃ (r : Int) (ok : Bool) (s' : List Bool), e = .returned (.tuple #[.int .i64 r, .bool ok]) ∧ (∀ b s2, o = some (b, s2) → ok = true ∧ r = b ∧ s' = s2) ∧ (o = none → ok = false) ∧ s'.length = n ∧ w'.heap[gs]? = some (.cells (bA s') 4 (0, 0)) ∧ KeepBut w w' gs none ∧ Below w0.heap.size w0 w'
theorem FitsPost.no {n gs : Nat} {w0 w w' : World} {r : Int} {s : List Bool} (hl : s.length = n) (hg : w'.heap[gs]? = some (.cells (bA s) 4 (0, 0))) (hk : KeepBut w w' gs none) (hb : Below w0.heap.size w0 w') : FitsPost none n gs w0 w (.returned (.tuple #[.int .i64 r, .bool false])) w' :=
  ⟨r, false, s, rfl, (fun _ _ h => by cases h), fun _ => rfl, hl, hg, hk, hb⟩
def spS (k : Nat) (n : S56) : Bool := (spec_l8Class.f k n.f0).isSome && (spec_l8Has.f k n.f0 n.f1 n.f2 n.f3).isSome && match spec_l8Shape.f k n.f0 n.f1 n.f2 n.f3 with
  | none => false
  | some (sh, ok) => !ok || decide (sh.length = n.f3.length)
def spOf (k : Nat) : Sp := ⟨fun n => (spec_l8Class.f k n.f0).getD 0, fun n => (spec_l8Shape.f k n.f0 n.f1 n.f2 n.f3).getD ([], false), fun n => (spec_l8Has.f k n.f0 n.f1 n.f2 n.f3).getD false⟩
theorem l1In_dec (i m : Int) : spec_l1In.f i 0 m = some (decide (0 ≤ i ∧ i ≤ m)) := by
  unfold spec_l1In.f
  split <;> simp [*]
theorem fitsG_out {nodes : List S56} {sp : Sp} {d : Nat} {i c a : Int} {s : List Bool} (h : ¬ (0 ≤ i ∧ i < nodes.length)) : fitsG nodes sp d i c a s = none := by
  cases d with
  | zero => rfl
  | succ d =>
    unfold fitsG
    rw [if_pos h]
set_option maxHeartbeats 8000000 in
set_option maxRecDepth 100000 in
theorem fitsOut126.calls (w0 : World) (A : Option Addr) (c : Nat) (nodes : List S56) (B : Option Addr) (d : Nat) (tops : List Int) (gs : Nat) (hlen : nodes.length ≤ 4000) (i cl a : Int) (s : List Bool) (w : World) (c1 : ¬ (0 ≤ i ∧ i < nodes.length)) (hsl : s.length = nodes.length) (hgw : w.heap[gs]? = some (.cells (bA s) 4 (0, 0))) (hbw : Below w0.heap.size w0 w) :
    Calls Try.prog 26 #[.agg #[.slice A nodes.length c, .slice B tops.length d], .int .i64 i, .int .i64 cl, .int .i64 a, .slice (some ⟨gs, 0, none⟩) nodes.length nodes.length] w (FitsPost none nodes.length gs w0 w) := by
  have hu141 := Try.underlying56
  have hu59 := Try.underlying29
  have HG := Aside0.mk hgw
  have HB := Aside0.mk hbw
  have HSL := Aside0.mk hsl
  have hl9 : (nodes.length : Int) ≤ 4000 := by omega
  have hw := l1In_dec i ((nodes.length : Int) - 1)
  rw [decide_eq_false (by omega)] at hw
  have HW := Aside0.mk hw
  clear hw c1 hgw hbw hsl hlen
  go_enter Try.func26, Try.ntmps26
  go_wp2_with (go_at_call 35; (with_reducible refine (spec_l1In.calls i 0 ((nodes.length : Int) - 1) false _ HW.out).mono ?_); rintro e w5 ⟨rfl, hd⟩; obtain ⟨q, rfl⟩ := Drawn0.out hd)
  go_ret2
  refine FitsPost.no HSL.out ?_ ?_ ?_
  · exact blk_below HG.out (pw_below_drewN (below_alloc (Below.refl _ _) _) _)
  · exact KeepBut.of_below (pw_below_drewN (below_alloc (Below.refl _ _) _) _) _ _
  · exact below_step HB.out (pw_below_drewN (below_alloc (Below.refl _ _) _) _)
set_option maxHeartbeats 8000000 in
set_option maxRecDepth 100000 in
theorem fits126.calls (kr : Nat) (w0 : World) (A : Option Addr) (c : Nat) (nodes : List S56) (B : Option Addr) (d : Nat) (tops : List Int) (gs : Nat) (hN0 : Kd.C k56 w0 A nodes.length nodes) (hlen : nodes.length ≤ 4000) (hgs : w0.heap.size ≤ gs) (hS : nodes.all (spS kr) = true) : ∀ (dd : Nat) (i cl a : Int) (s : List Bool) (w : World), i.toNat < dd → 0 ≤ a → a ≤ 4001 → s.length = nodes.length → w.heap[gs]? = some (.cells (bA s) 4 (0, 0)) → Below w0.heap.size w0 w →
    Calls Try.prog 26 #[.agg #[.slice A nodes.length c, .slice B tops.length d], .int .i64 i, .int .i64 cl, .int .i64 a, .slice (some ⟨gs, 0, none⟩) nodes.length nodes.length] w (FitsPost (fitsG nodes (spOf kr) dd i cl a s) nodes.length gs w0 w) := by
  have hu141 := Try.underlying56
  have hu59 := Try.underlying29
  intro dd
  induction dd with
  | zero => intro i cl a s w h; omega
  | succ dd ih =>
    intro i cl a s w hd ha ha2 hsl hgw hbw
    have HG := Aside0.mk hgw
    have HB := Aside0.mk hbw
    have HSL := Aside0.mk hsl
    have HN0 := Aside0.mk hN0
    have HLEN := Aside0.mk hlen
    have HGS := Aside0.mk hgs
    have HS := Aside0.mk (List.all_eq_true.1 hS)
    have HD := Aside0.mk hd
    have HA := Aside0.mk ha
    have HA2 := Aside0.mk ha2
    have IH := Aside0.mk ih
    have hl9 : (nodes.length : Int) ≤ 4000 := by omega
    obtain ⟨O, hO⟩ : ∃ O, O = fitsG nodes (spOf kr) (dd + 1) i cl a s := ⟨_, rfl⟩
    rw [← hO]
    have HO : Aside0 (O = if ¬ (0 ≤ i ∧ i < nodes.length) then none else if s.getD i.toNat false = true then none else if rightC ((spOf kr).cls (rd_T56 nodes i)) (rd_T56 nodes i).f0 cl = true ∧ ((spOf kr).shape (rd_T56 nodes i)).2 = true ∧ (spOf kr).has (rd_T56 nodes i) = true then
      match fitsKids (fitsG nodes (spOf kr) dd) i (rd_T56 nodes i).f3 ((spOf kr).shape (rd_T56 nodes i)).1 a (s.set i.toNat true) with
      | none => none
      | some (b, s') => if b = i then some (b + 1, s') else none
    else none) := ⟨hO⟩
    clear hO hgw hbw hsl hN0 hlen hgs hS hd ha ha2 ih
    have hw := l1In_dec i ((nodes.length : Int) - 1)
    by_cases c1 : 0 ≤ i ∧ i < nodes.length
    rotate_left
    · have hO : O = none := by rw [HO.out, if_pos c1]
      rw [hO]
      exact fitsOut126.calls w0 A c nodes B d tops gs HLEN.out i cl a s w c1 HSL.out HG.out HB.out
    rw [decide_eq_true (by omega)] at hw
    have HW := Aside0.mk hw
    clear hw
    obtain ⟨p0, q0⟩ := c1
    have HO2 : Aside0 (O = if s.getD i.toNat false = true then none else if rightC ((spOf kr).cls (rd_T56 nodes i)) (rd_T56 nodes i).f0 cl = true ∧ ((spOf kr).shape (rd_T56 nodes i)).2 = true ∧ (spOf kr).has (rd_T56 nodes i) = true then
      match fitsKids (fitsG nodes (spOf kr) dd) i (rd_T56 nodes i).f3 ((spOf kr).shape (rd_T56 nodes i)).1 a (s.set i.toNat true) with
      | none => none
      | some (b, s') => if b = i then some (b + 1, s') else none
    else none) := ⟨by rw [HO.out, if_neg (by simp only [Classical.not_not]; exact ⟨p0, q0⟩)]⟩
    clear HO
    have HSI : Aside0 (∀ w' : World, w'.heap[gs]? = some (.cells (bA s) 4 (0, 0)) → w'.cell? ⟨gs, i.toNat, none⟩ = some (.bool (s.getD i.toNat false)) ∧ w'.frozen? ⟨gs, i.toNat, none⟩ = false) := ⟨fun w' h => ⟨(blk_cell h _).trans (bA_get s i.toNat (by have := HSL.out; omega)), blk_frozen h _⟩⟩
    cases cs : s.getD i.toNat false with
    | true =>
      have hO : O = none := by rw [HO2.out, if_pos cs]
      rw [hO]
      rw [cs] at HSI
      clear hO HO2 cs
      obtain ⟨k1, k2⟩ := HSI.out w HG.out
      have hlt := blk_lt HG.out
      replace p0 := eq_true p0
      replace q0 := eq_true q0
      go_enter Try.func26, Try.ntmps26
      go_wp2_with (go_at_call 35; (with_reducible refine (spec_l1In.calls i 0 ((nodes.length : Int) - 1) true _ HW.out).mono ?_); rintro e w5 ⟨rfl, hd⟩; obtain ⟨q, rfl⟩ := Drawn0.out hd)
      go_ret2
      refine FitsPost.no HSL.out ?_ ?_ ?_
      · exact blk_below HG.out (pw_below_drewN (below_alloc (Below.refl _ _) _) _)
      · exact KeepBut.of_below (pw_below_drewN (below_alloc (Below.refl _ _) _) _) _ _
      · exact below_step HB.out (pw_below_drewN (below_alloc (Below.refl _ _) _) _)
    | false =>
      rw [cs] at HSI
      have HO3 : Aside0 (O = if rightC ((spOf kr).cls (rd_T56 nodes i)) (rd_T56 nodes i).f0 cl = true ∧ ((spOf kr).shape (rd_T56 nodes i)).2 = true ∧ (spOf kr).has (rd_T56 nodes i) = true then
        match fitsKids (fitsG nodes (spOf kr) dd) i (rd_T56 nodes i).f3 ((spOf kr).shape (rd_T56 nodes i)).1 a (s.set i.toNat true) with
        | none => none
        | some (b, s') => if b = i then some (b + 1, s') else none
      else none) := ⟨by rw [HO2.out, if_neg (by rw [cs]; exact Bool.false_ne_true)]⟩
      clear HO2 cs
      have hmem : rd_T56 nodes i ∈ nodes := by
        unfold rd_T56
        rw [List.getD_eq_getElem?_getD, List.getElem?_eq_getElem (by omega)]
        exact List.getElem_mem _
      have hs := HS.out _ hmem
      unfold spS at hs
      rw [Bool.and_eq_true, Bool.and_eq_true] at hs
      obtain ⟨⟨hs1, hs2⟩, hs3⟩ := hs
      obtain ⟨K0, hK0⟩ := Option.isSome_iff_exists.1 hs1
      obtain ⟨hb, hhb⟩ := Option.isSome_iff_exists.1 hs2
      cases hsh : spec_l8Shape.f kr (rd_T56 nodes i).f0 (rd_T56 nodes i).f1 (rd_T56 nodes i).f2 (rd_T56 nodes i).f3 with
      | none => rw [hsh] at hs3; cases hs3
      | some p =>
        obtain ⟨sh, ok⟩ := p
        rw [hsh] at hs3
        have hs4 : ok = true → sh.length = (rd_T56 nodes i).f3.length := fun h => by
          subst h
          simpa using hs3
        have HO4 : Aside0 (O = if rightC K0 (rd_T56 nodes i).f0 cl = true ∧ ok = true ∧ hb = true then
          match fitsKids (fitsG nodes (spOf kr) dd) i (rd_T56 nodes i).f3 sh a (s.set i.toNat true) with
          | none => none
          | some (b, s') => if b = i then some (b + 1, s') else none
        else none) := ⟨by
          have h := HO3.out
          unfold spOf at h
          simp only [hK0, hsh, hhb, Option.getD_some] at h
          exact h⟩
        clear HO3 hs1 hs2 hs3 hmem
        obtain ⟨nd, NA, nc, ead, hx0, hx1, hx2, hx3, hl3, hi3⟩ := at_T56 HN0.out i p0 q0
        cases ead
        generalize rd_T56 nodes i = n at hx0 hx1 hx2 hx3 hl3 hi3 hK0 hhb hsh hs4 HO4
        obtain ⟨n0, n1, n2, n3⟩ := n
        dsimp only at hx0 hx1 hx2 hx3 hl3 hi3 hK0 hhb hsh hs4 HO4
        have HX : Aside0 (∀ w', Below w0.heap.size w0 w' → w'.cell? (nd.add (i.toNat * 4)) = some (.int .i64 n0) ∧ w'.cell? ⟨(nd.add (i.toNat * 4)).block, (nd.add (i.toNat * 4)).off + 1, none⟩ = some (.string n1) ∧ w'.cell? ⟨(nd.add (i.toNat * 4)).block, (nd.add (i.toNat * 4)).off + 2, none⟩ = some (.int .i64 n2) ∧ w'.cell? ⟨(nd.add (i.toNat * 4)).block, (nd.add (i.toNat * 4)).off + 3, none⟩ = some (.slice NA n3.length nc)) := ⟨fun w' hb => ⟨pw_cell_below hb hx0, pw_cell_below hb hx1, pw_cell_below hb hx2, pw_cell_below hb hx3⟩⟩
        have HI3 := Aside0.mk hi3
        have HL3 := Aside0.mk hl3
        have HSH := Aside0.mk hsh
        have HHB := Aside0.mk hhb
        have HK0 := Aside0.mk hK0
        have HS4 := Aside0.mk hs4
        clear hx0 hx1 hx2 hx3 hi3 hl3 hsh hhb hK0 hs4 HS
        replace p0 := eq_true p0
        replace q0 := eq_true q0
        obtain ⟨k1, k2⟩ := HSI.out w HG.out
        have hlt := blk_lt HG.out
        go_enter Try.func26, Try.ntmps26
        go_upto_region 4 with (go_at_call 35; (with_reducible refine (spec_l1In.calls i 0 ((nodes.length : Int) - 1) true _ HW.out).mono ?_); rintro e w5 ⟨rfl, hd⟩; obtain ⟨q, rfl⟩ := Drawn0.out hd)
        obtain ⟨w1, hw1⟩ : ∃ w1, w1 = (w.alloc (.cells #[.slice (some nd) nodes.length c, .slice B tops.length d] 29)).drewN q := ⟨_, rfl⟩
        rw [← hw1]
        have hb1 : Below w.heap.size w w1 := by rw [hw1]; exact pw_below_drewN (below_alloc (Below.refl _ _) _) _
        have hg1 : w1.cell? ⟨w.heap.size, 0, none⟩ = some (.slice (some nd) nodes.length c) := by rw [hw1]; simp
        have hg1b : w1.cell? ⟨w.heap.size, 1, none⟩ = some (.slice B tops.length d) := by rw [hw1]; simp
        have hlw : gs < w.heap.size := blk_lt HG.out
        obtain ⟨w2, hw2⟩ : ∃ w2, w2 = w1.setCell ⟨gs, i.toNat, none⟩ (.bool true) := ⟨_, rfl⟩
        rw [← hw2]
        have HG2 : Aside0 (w2.heap[gs]? = some (.cells (bA (s.set i.toNat true)) 4 (0, 0))) := ⟨by rw [hw2]; exact blk_put (blk_below HG.out hb1) _ _ (bA_set s i.toNat true)⟩
        have HK2 : Aside0 (KeepBut w w2 gs none) := ⟨by rw [hw2]; exact (KeepBut.of_below hb1 gs none).set_ _ _⟩
        have HB2 : Aside0 (Below w0.heap.size w0 w2) := ⟨by rw [hw2]; exact below_set (below_step HB.out hb1) HGS.out⟩
        have hne : w.heap.size ≠ gs := by omega
        have hc0 : w2.cell? ⟨w.heap.size, 0, none⟩ = some (.slice (some nd) nodes.length c) := by
          rw [hw2]
          exact (keep_cell ((KeepBut.refl w1 gs none).set_ _ _) hg1 hne)
        have hc1 : w2.cell? ⟨w.heap.size, 1, none⟩ = some (.slice B tops.length d) := by
          rw [hw2]
          exact (keep_cell ((KeepBut.refl w1 gs none).set_ _ _) hg1b hne)
        have hsz : w.heap.size < w2.heap.size := World.block_lt_of_cell? w2 _ hc0
        obtain ⟨hx0, hx1, hx2, hx3⟩ := HX.out w2 HB2.out
        have HSZ := Aside0.mk hsz
        have HNE := Aside0.mk hne
        clear hw2 hw1 hb1 hg1 hg1b hlw hlt k1 k2 hne hsz
        go_upto_region 5 with (fail)
        obtain ⟨w3, hw3⟩ : ∃ w3, w3 = w2.alloc (.cells #[.int .i64 n0, .string n1, .int .i64 n2, .slice NA n3.length nc] 56) := ⟨_, rfl⟩
        rw [← hw3]
        have hb3 : Below w2.heap.size w2 w3 := by rw [hw3]; exact below_alloc (Below.refl _ _) _
        have e0 : w3.cell? ⟨w2.heap.size, 0, none⟩ = some (.int .i64 n0) := by rw [hw3]; exact sbx0 w2 n0 n1 n2 _
        have e1 : w3.cell? ⟨w2.heap.size, 1, none⟩ = some (.string n1) := by rw [hw3]; exact sbx1 w2 n0 n1 n2 _
        have e2 : w3.cell? ⟨w2.heap.size, 2, none⟩ = some (.int .i64 n2) := by rw [hw3]; exact sbx2 w2 n0 n1 n2 _
        have e3 : w3.cell? ⟨w2.heap.size, 3, none⟩ = some (.slice NA n3.length nc) := by rw [hw3]; exact sbx3 w2 n0 n1 n2 _
        have g0 := pw_cell_below hb3 hc0
        have g1 := pw_cell_below hb3 hc1
        have HB3 := Aside0.mk (below_step HB2.out hb3)
        have HG3 := Aside0.mk (blk_below HG2.out hb3)
        have HK3 : Aside0 (KeepBut w w3 gs none) := ⟨HK2.out.trans (KeepBut.of_below hb3 gs none) (.inl rfl)⟩
        have hn2 : w2.heap.size ≠ gs := by have := blk_lt HG2.out; omega
        have HN2 := Aside0.mk hn2
        have hlb : w2.heap.size < w3.heap.size := World.block_lt_of_cell? w3 _ e0
        have HLB := Aside0.mk hlb
        -- what the node's and the tree's boxes hold, whatever is made later, and whatever is seen
        have HC : Aside0 (∀ w', KeepBut w3 w' gs none → (w'.cell? ⟨w2.heap.size, 0, none⟩ = some (.int .i64 n0) ∧ w'.cell? ⟨w2.heap.size, 1, none⟩ = some (.string n1) ∧ w'.cell? ⟨w2.heap.size, 2, none⟩ = some (.int .i64 n2) ∧ w'.cell? ⟨w2.heap.size, 3, none⟩ = some (.slice NA n3.length nc)) ∧ w'.cell? ⟨w.heap.size, 0, none⟩ = some (.slice (some nd) nodes.length c) ∧ w'.cell? ⟨w.heap.size, 1, none⟩ = some (.slice B tops.length d)) := ⟨fun w' hk => ⟨⟨keep_cell hk e0 hn2, keep_cell hk e1 hn2, keep_cell hk e2 hn2, keep_cell hk e3 hn2⟩, keep_cell hk g0 HNE.out, keep_cell hk g1 HNE.out⟩⟩
        clear hw3 hb3 hx0 hx1 hx2 hx3 hc0 hc1 hn2 hlb
        generalize w2.heap.size = nb at e0 e1 e2 e3 HC HLB HN2 ⊢
        obtain ⟨rg, hrg⟩ : ∃ rg : Bool, rg = rightC K0 n0 cl := ⟨_, rfl⟩
        rw [← hrg] at HO4
        have HRG := Aside0.mk hrg
        clear hrg
        go_cut [13] (fun v13 wc => v13 = .bool (K0 == cl && cl != 0) ∧ Aside0 (Below w3.heap.size w3 wc))
        case first =>
          cases b1 : (K0 == cl) with
          | true =>
            go_wp2_with (go_at_call 36; (with_reducible refine (spec_l8Class.calls kr n0 K0 _ HK0.out).mono ?_); rintro e w5 ⟨rfl, hd⟩; obtain ⟨q5, rfl⟩ := Drawn0.out hd)
            go_meet
            case rel => exact ⟨by first | rfl | (rw [b1]; rfl) | (rw [b1, Bool.true_and]), ⟨pw_below_drewN (Below.refl _ _) _⟩⟩
          | false =>
            go_wp2_with (go_at_call 36; (with_reducible refine (spec_l8Class.calls kr n0 K0 _ HK0.out).mono ?_); rintro e w5 ⟨rfl, hd⟩; obtain ⟨q5, rfl⟩ := Drawn0.out hd)
            go_meet
            case rel => exact ⟨by first | rfl | (rw [b1]; rfl) | (rw [b1, Bool.true_and]), ⟨pw_below_drewN (Below.refl _ _) _⟩⟩
        case rest =>
          obtain ⟨rfl, HBC⟩ := hcut
          obtain ⟨⟨e0, e1, e2, e3⟩, g0, g1⟩ := HC.out wc (KeepBut.of_below HBC.out gs none)
          go_upto_if 50 with (fail)
          go_cut [13] (fun v13 wd => v13 = .bool rg ∧ Aside0 (Below w3.heap.size w3 wd))
          case first =>
            by_cases h10 : cl = 10
            · have b10 : (cl == 10) = true := beq_iff_eq.2 h10
              have hr : rg = (n0 == 7) := by rw [HRG.out]; unfold rightC; rw [if_pos h10]
              have HR := Aside0.mk hr
              clear h10 hr
              go_wp2
              go_meet
              case rel => exact ⟨by rw [HR.out]; first | done | rfl, HBC⟩
            · have b10 : (cl == 10) = false := beq_eq_false_iff_ne.2 h10
              have hr : rg = (K0 == cl && cl != 0) := by rw [HRG.out]; unfold rightC; rw [if_neg h10]
              have HR := Aside0.mk hr
              clear h10 hr
              go_wp2
              go_meet
              case rel => exact ⟨by rw [HR.out]; first | done | rfl, HBC⟩
          case rest =>
            clear HBC e0 e1 e2 e3 g0 g1
            obtain ⟨rfl, HBC⟩ := hcut
            obtain ⟨⟨e0, e1, e2, e3⟩, g0, g1⟩ := HC.out wc (KeepBut.of_below HBC.out gs none)
            have HBW := Aside0.mk (below_step HB3.out HBC.out)
            have HKI := Aside0.mk (Kd.C_below HI3.out HBW.out)
            have HGC := Aside0.mk (blk_below HG3.out HBC.out)
            have HKC : Aside0 (KeepBut w wc gs none) := ⟨HK3.out.trans (KeepBut.of_below HBC.out gs none) (.inl rfl)⟩
            have HSL2 : Aside0 ((s.set i.toNat true).length = nodes.length) := ⟨by rw [List.length_set]; exact HSL.out⟩
            have HCC : Aside0 (∀ w', KeepBut wc w' gs none → (w'.cell? ⟨nb, 0, none⟩ = some (.int .i64 n0) ∧ w'.cell? ⟨nb, 1, none⟩ = some (.string n1) ∧ w'.cell? ⟨nb, 2, none⟩ = some (.int .i64 n2) ∧ w'.cell? ⟨nb, 3, none⟩ = some (.slice NA n3.length nc)) ∧ w'.cell? ⟨w.heap.size, 0, none⟩ = some (.slice (some nd) nodes.length c) ∧ w'.cell? ⟨w.heap.size, 1, none⟩ = some (.slice B tops.length d)) := ⟨fun w' hk => HC.out w' ((KeepBut.of_below HBC.out gs none).trans hk (.inl rfl))⟩
            have HGL : Aside0 (gs < wc.heap.size) := ⟨blk_lt HGC.out⟩
            clear HC HBC HB3 HG3 HK3 HLB HSZ HX HK2 HB2 HG2 HSI
            generalize hs1 : s.set i.toNat true = s1 at HO4 HGC HSL2
            clear hs1
            cases rg with
            | false =>
              have hO : O = none := by rw [HO4.out, if_neg (by simp)]
              clear HO4
              subst hO
              go_wp2_with (go_at_call 37; (with_reducible refine (spec_l8Shape.calls kr n0 n1 n2 _ _ n3 sh ok _ HKI.out HL3.out HSH.out).mono ?_); rintro e w5 ⟨v0, rfl, hR, hb5⟩)
              go_ret2
              exact FitsPost.no HSL2.out (blk_below HGC.out hb5) (HKC.out.trans (KeepBut.of_below hb5 gs none) (.inl rfl)) (below_step HBW.out hb5)
            | true =>
              cases ok with
              | false =>
                have hO : O = none := by rw [HO4.out, if_neg (by simp)]
                clear HO4
                subst hO
                go_wp2_with (go_at_call 37; (with_reducible refine (spec_l8Shape.calls kr n0 n1 n2 _ _ n3 sh false _ HKI.out HL3.out HSH.out).mono ?_); rintro e w5 ⟨v0, rfl, hR, hb5⟩)
                go_ret2
                exact FitsPost.no HSL2.out (blk_below HGC.out hb5) (HKC.out.trans (KeepBut.of_below hb5 gs none) (.inl rfl)) (below_step HBW.out hb5)
              | true =>
                cases hb with
                | false =>
                  have hO : O = none := by rw [HO4.out, if_neg (by simp)]
                  clear HO4
                  subst hO
                  go_wp2_with (first | (go_at_call 37; (with_reducible refine (spec_l8Shape.calls kr n0 n1 n2 _ _ n3 sh true _ HKI.out HL3.out HSH.out).mono ?_); rintro e w5 ⟨v0, rfl, hR, hb5⟩; obtain ⟨⟨f0, f1, f2, f3⟩, _⟩ := HCC.out w5 (KeepBut.of_below hb5 gs none); have HKI5 := Aside0.mk (Kd.C_below HKI.out hb5); have HB5 := Aside0.mk hb5; clear e0 e1 e2 e3 hb5) | (go_at_call 38; (with_reducible refine (spec_l8Has.calls kr n0 n1 n2 _ _ n3 false _ HKI5.out HL3.out HHB.out).mono ?_); rintro e w6 ⟨rfl, hb6⟩))
                  go_ret2
                  exact FitsPost.no HSL2.out (blk_below HGC.out (below_step HB5.out hb6)) (HKC.out.trans (KeepBut.of_below (below_step HB5.out hb6) gs none) (.inl rfl)) (below_step HBW.out (below_step HB5.out hb6))
                | true =>
                  have HO5 : Aside0 (O = match fitsKids (fitsG nodes (spOf kr) dd) i n3 sh a s1 with
                    | none => none
                    | some (b, s') => if b = i then some (b + 1, s') else none) := ⟨by rw [HO4.out, if_pos ⟨rfl, rfl, rfl⟩]⟩
                  have HSN : Aside0 (sh.length = n3.length) := ⟨HS4.out rfl⟩
                  clear HO4 HS4
                  go_upto_region 11 with (first | (go_at_call 37; (with_reducible refine (spec_l8Shape.calls kr n0 n1 n2 _ _ n3 sh true _ HKI.out HL3.out HSH.out).mono ?_); rintro e w5 ⟨v0, rfl, hR, hb5⟩; obtain ⟨⟨f0, f1, f2, f3⟩, _⟩ := HCC.out w5 (KeepBut.of_below hb5 gs none); have HKI5 := Aside0.mk (Kd.C_below HKI.out hb5); have HB5 := Aside0.mk hb5; have HRR := Aside0.mk (Kd.R_bound hR); clear e0 e1 e2 e3 hb5 hR) | (go_at_call 38; (with_reducible refine (spec_l8Has.calls kr n0 n1 n2 _ _ n3 true _ HKI5.out HL3.out HHB.out).mono ?_); rintro e w6 ⟨rfl, hb6⟩))
                  have HBL := Aside0.mk (below_step HB5.out hb6)
                  obtain ⟨SA, sc, ev, hsl, _⟩ := Kd.R_reads HRR.out
                  have HSH2 : Aside0 (∀ W', KeepBut w6 W' gs none → Kd.C (Kd.int .i64) W' SA sh.length sh) := ⟨by
                    have hr := HRR.out
                    rw [ev] at hr
                    have hr6 := Kd.R_below hr hb6
                    exact Kd.C_foot_own hr6 (fun k hk => by have := hk.2.1; have := HGL.out; omega)⟩
                  subst ev
                  have HG6 := Aside0.mk (blk_below HGC.out HBL.out)
                  have HK6 : Aside0 (KeepBut w w6 gs none) := ⟨HKC.out.trans (KeepBut.of_below HBL.out gs none) (.inl rfl)⟩
                  have HB6 := Aside0.mk (below_step HBW.out HBL.out)
                  have HCL : Aside0 (∀ w', KeepBut w6 w' gs none → (w'.cell? ⟨nb, 0, none⟩ = some (.int .i64 n0) ∧ w'.cell? ⟨nb, 1, none⟩ = some (.string n1) ∧ w'.cell? ⟨nb, 2, none⟩ = some (.int .i64 n2) ∧ w'.cell? ⟨nb, 3, none⟩ = some (.slice NA n3.length nc)) ∧ w'.cell? ⟨w.heap.size, 0, none⟩ = some (.slice (some nd) nodes.length c) ∧ w'.cell? ⟨w.heap.size, 1, none⟩ = some (.slice B tops.length d)) := ⟨fun w' hk => HCC.out w' ((KeepBut.of_below HBL.out gs none).trans hk (.inl rfl))⟩
                  have HM := Aside0.mk (show n3.length ≤ 9223372036854775807 from HI3.out.2.1)
                  rw [HSN.out]
                  clear HCC HRR HKC HBL HKI HKI5 HBW HB5 HGC hb6 f0 f1 f2 f3 g0 g1 hsl
                  go_wp2
                  go_loopg [3, 16] n3.length (fun kq v3 v16 w' => ∃ (j : Nat) (b : Int) (s2 : List Bool), v16 = .int .i64 (j : Int) ∧ v3 = .int .i64 b ∧ Aside0 (j + kq = n3.length) ∧ Aside0 (0 ≤ b ∧ b ≤ 4001) ∧ Aside0 (s2.length = nodes.length) ∧ Aside0 (w'.heap[gs]? = some (.cells (bA s2) 4 (0, 0))) ∧ Aside0 (fitsKids (fitsG nodes (spOf kr) dd) i (n3.drop j) (sh.drop j) b s2 = fitsKids (fitsG nodes (spOf kr) dd) i n3 sh a s1) ∧ Aside0 (KeepBut w6 w' gs none) ∧ Aside0 (Below w0.heap.size w0 w'))
                  case atStart => exact ⟨0, a, s1, rfl, rfl, ⟨by omega⟩, ⟨HA.out, HA2.out⟩, HSL2, HG6, ⟨rfl⟩, ⟨KeepBut.refl _ _ _⟩, HB6⟩
                  case round =>
                    obtain ⟨j, b, s2, rfl, rfl, HX, HBB, HS2, HGJ, HF, HKJ, HBJ⟩ := hrel
                    obtain ⟨⟨e0, e1, e2, e3⟩, g0, g1⟩ := HCL.out wr HKJ.out
                    by_cases c1 : j < n3.length
                    · have cbj : decide ((j : Int) < (n3.length : Int)) = true := by simpa using c1
                      obtain ⟨ad, ead, hx⟩ := Kd.at_int (Kd.C_below HI3.out HBJ.out) (j : Int) (by omega) (by omega)
                      cases ead
                      have hsc := HSH2.out wr HKJ.out
                      rw [HSN.out] at hsc
                      obtain ⟨ads, eas, hxs⟩ := Kd.at_int hsc (j : Int) (by omega) (by omega)
                      cases eas
                      obtain ⟨ad', ea', hx0⟩ := Kd.at_int HI3.out (j : Int) (by omega) (by omega)
                      cases ea'
                      have HXS : ∀ W', KeepBut w6 W' gs none → W'.cell? (ads.add j) = some (.int .i64 (rd sh (j : Int))) := fun W' hk => by
                        have h := HSH2.out W' hk
                        rw [HSN.out] at h
                        obtain ⟨ad2, ea2, h2⟩ := Kd.at_int h (j : Int) (by omega) (by omega)
                        cases ea2
                        rw [Int.toNat_natCast] at h2
                        exact h2
                      rw [Int.toNat_natCast] at hx hxs hx0
                      have hrd : rd n3 (j : Int) = n3[j] := by
                        unfold rd
                        rw [Int.toNat_natCast, List.getD_eq_getElem?_getD, List.getElem?_eq_getElem c1]
                        rfl
                      have c2 : j < sh.length := by have := HSN.out; omega
                      have hrs : rd sh (j : Int) = sh[j] := by
                        unfold rd
                        rw [Int.toNat_natCast, List.getD_eq_getElem?_getD, List.getElem?_eq_getElem c2]
                        rfl
                      have hn := HF.out
                      rw [List.drop_eq_getElem_cons c1, List.drop_eq_getElem_cons c2, ← hrd, ← hrs] at hn
                      generalize rd n3 (j : Int) = x at hx hx0 hn
                      generalize rd sh (j : Int) = y at hxs HXS hn
                      have HXS := Aside0.mk HXS
                      have HXB := Aside0.mk (World.block_lt_of_cell? w0 _ hx0)
                      clear hx0
                      have hn2 : (if x ≥ i then none else match fitsG nodes (spOf kr) dd x y b s2 with
                        | none => none
                        | some (b', s') => fitsKids (fitsG nodes (spOf kr) dd) i (n3.drop (j + 1)) (sh.drop (j + 1)) b' s') = fitsKids (fitsG nodes (spOf kr) dd) i n3 sh a s1 := hn
                      have HN2 := Aside0.mk hn2
                      clear hn hn2 hrd hrs hsc c2
                      by_cases cx : x ≥ i
                      · have cbx : decide (x ≥ i) = true := decide_eq_true cx
                        have cby : decide (i ≤ x) = true := decide_eq_true cx
                        have hO : O = none := by
                          have h := HN2.out
                          rw [if_pos cx] at h
                          rw [HO5.out, ← h]
                        clear HO5 cx
                        subst hO
                        go_wp2
                        go_ret2
                        exact FitsPost.no HS2.out HGJ.out (HK6.out.trans HKJ.out (.inl rfl)) HBJ.out
                      · have cbx : decide (x ≥ i) = false := decide_eq_false cx
                        have cby : decide (i ≤ x) = false := decide_eq_false cx
                        have HN3 := HN2.out
                        rw [if_neg cx] at HN3
                        have hc : ∀ W, W.heap[gs]? = some (.cells (bA s2) 4 (0, 0)) → Below w0.heap.size w0 W → Calls Try.prog 26 #[.agg #[.slice (some nd) nodes.length c, .slice B tops.length d], .int .i64 x, .int .i64 y, .int .i64 b, .slice (some ⟨gs, 0, none⟩) nodes.length nodes.length] W (FitsPost (fitsG nodes (spOf kr) dd x y b s2) nodes.length gs w0 W) := fun W hg hb => by
                          by_cases cr : 0 ≤ x ∧ x < nodes.length
                          · exact IH.out x y b s2 W (by have := HD.out; omega) HBB.out.1 HBB.out.2 HS2.out hg hb
                          · rw [fitsG_out cr]
                            exact fitsOut126.calls w0 _ c nodes B d tops gs HLEN.out x y b s2 W cr HS2.out hg hb
                        have HCALL := Aside0.mk hc
                        clear hc cx
                        have hS : ∀ w', KeepBut wr w' gs none → w'.cell? ⟨nb, 3, none⟩ = some (.slice (some ad) n3.length nc) ∧ w'.cell? ⟨w.heap.size, 0, none⟩ = some (.slice (some nd) nodes.length c) ∧ w'.cell? ⟨w.heap.size, 1, none⟩ = some (.slice B tops.length d) ∧ w'.cell? (ad.add j) = some (.int .i64 x) ∧ w'.cell? (ads.add j) = some (.int .i64 y) := fun w' hk => ⟨(HCL.out w' (HKJ.out.trans hk (.inl rfl))).1.2.2.2, (HCL.out w' (HKJ.out.trans hk (.inl rfl))).2.1, (HCL.out w' (HKJ.out.trans hk (.inl rfl))).2.2, keep_cell hk hx (by have := HXB.out; have := HGS.out; omega), HXS.out w' (HKJ.out.trans hk (.inl rfl))⟩
                        have hj0 : (0 : Int) ≤ (j : Int) := by omega
                        have hj1 : (j : Int) < (n3.length : Int) := by omega
                        have HGX : Aside0 (∀ W, Below wr.heap.size wr W → W.heap[gs]? = some (.cells (bA s2) 4 (0, 0))) := ⟨fun W hb => blk_below HGJ.out hb⟩
                        have HBX : Aside0 (∀ W, Below wr.heap.size wr W → Below w0.heap.size w0 W) := ⟨fun W hb => below_step HBJ.out hb⟩
                        have HS9 := Aside0.mk hS
                        clear e0 e1 e2 g0 g1 hxs hS
                        cases hf : fitsG nodes (spOf kr) dd x y b s2 with
                        | none =>
                          rw [hf] at HCALL HN3
                          have hO : O = none := by rw [HO5.out, ← HN3]
                          clear HO5 HN3 hf
                          subst hO
                          go_wp2
                          go_region_held3 (fun w' => w'.cell? ⟨nb, 3, none⟩ = some (.slice (some ad) n3.length nc) ∧ w'.cell? ⟨w.heap.size, 0, none⟩ = some (.slice (some nd) nodes.length c) ∧ w'.cell? ⟨w.heap.size, 1, none⟩ = some (.slice B tops.length d) ∧ w'.cell? (ad.add j) = some (.int .i64 x) ∧ w'.cell? (ads.add j) = some (.int .i64 y)) (exact HS9.out _ (by first | exact h5 | exact KeepBut.of_below (by repeat (with_reducible first | exact Below.refl _ _ | apply pw_below_drewN | apply below_drew1)) gs none))
                            (first | (go_at_call 26; (with_reducible refine (HCALL.out _ (HGX.out _ (by repeat (with_reducible first | exact Below.refl _ _ | apply pw_below_drewN | apply below_drew1))) (HBX.out _ (by repeat (with_reducible first | exact Below.refl _ _ | apply pw_below_drewN | apply below_drew1)))).mono ?_); rintro e w7 ⟨r, ok, s3, rfl, h1, h2, h3, h4, h5, h6⟩; obtain rfl := h2 rfl; clear h1 h2))
                          go_wp2
                          go_ret2
                          exact FitsPost.no h3 h4 (HK6.out.trans (HKJ.out.trans h5 (.inl rfl)) (.inl rfl)) h6
                        | some p =>
                          obtain ⟨b3, s3⟩ := p
                          rw [hf] at HCALL HN3
                          obtain ⟨hi1, hi2, hi3⟩ := fitsG_in hf
                          have HB3 : Aside0 (0 ≤ b3 ∧ b3 ≤ 4001) := ⟨by have := HLEN.out; omega⟩
                          have HN4 := Aside0.mk HN3
                          clear HN3 hf hi1 hi2 hi3
                          go_wp2
                          go_region_held3 (fun w' => w'.cell? ⟨nb, 3, none⟩ = some (.slice (some ad) n3.length nc) ∧ w'.cell? ⟨w.heap.size, 0, none⟩ = some (.slice (some nd) nodes.length c) ∧ w'.cell? ⟨w.heap.size, 1, none⟩ = some (.slice B tops.length d) ∧ w'.cell? (ad.add j) = some (.int .i64 x) ∧ w'.cell? (ads.add j) = some (.int .i64 y)) (exact HS9.out _ (by first | exact h5 | exact KeepBut.of_below (by repeat (with_reducible first | exact Below.refl _ _ | apply pw_below_drewN | apply below_drew1)) gs none))
                            (first | (go_at_call 26; (with_reducible refine (HCALL.out _ (HGX.out _ (by repeat (with_reducible first | exact Below.refl _ _ | apply pw_below_drewN | apply below_drew1))) (HBX.out _ (by repeat (with_reducible first | exact Below.refl _ _ | apply pw_below_drewN | apply below_drew1)))).mono ?_); rintro e w7 ⟨r, ok, s4, rfl, h1, h2, h3, h4, h5, h6⟩; obtain ⟨rfl, rfl, rfl⟩ := h1 _ _ rfl; clear h1 h2))
                          go_wp2
                          go_roundg (n3.length - (j + 1))
                          case measure => have := HX.out; omega
                          case rel => exact ⟨j + 1, r, s4, (by first | rfl | rw [sTW j (by have := HM.out; have := HX.out; omega)]), rfl, ⟨by have := HX.out; omega⟩, HB3, ⟨h3⟩, ⟨h4⟩, HN4, ⟨HKJ.out.trans h5 (.inl rfl)⟩, ⟨h6⟩⟩
                    · have cbj : decide ((j : Int) < (n3.length : Int)) = false := by simpa using c1
                      have ej : j = n3.length := by have := HX.out; omega
                      have hn := HF.out
                      rw [ej, List.drop_length] at hn
                      have hn2 : some (b, s2) = fitsKids (fitsG nodes (spOf kr) dd) i n3 sh a s1 := hn
                      have hO : O = if b = i then some (b + 1, s2) else none := by rw [HO5.out, ← hn2]
                      obtain ⟨hb0, hb1⟩ := HBB.out
                      clear hn hn2 HO5
                      by_cases ci : b = i
                      · have cbi : (b == i) = true := beq_iff_eq.2 ci
                        rw [if_pos ci] at hO
                        subst hO
                        clear ci
                        go_wp2
                        go_ret2
                        exact ⟨b + 1, true, s2, rfl, (fun _ _ h => by cases h; exact ⟨rfl, rfl, rfl⟩), (fun h => by cases h), HS2.out, HGJ.out, HK6.out.trans HKJ.out (.inl rfl), HBJ.out⟩
                      · have cbi : (b == i) = false := beq_eq_false_iff_ne.2 ci
                        rw [if_neg ci] at hO
                        subst hO
                        clear ci
                        go_wp2
                        go_ret2
                        exact FitsPost.no HS2.out HGJ.out (HK6.out.trans HKJ.out (.inl rfl)) HBJ.out
def topsG (nodes : List S56) (sp : Sp) : List Int → Int → List Bool → Option (Int × List Bool)
  | [], a, s => some (a, s)
  | i :: is, a, s => match fitsG nodes sp (i.toNat + 1) i 9 a s with
    | none => none
    | some (b, s') => topsG nodes sp is b s'
def treeOkG (nodes : List S56) (sp : Sp) (tops : List Int) : Bool :=
  match topsG nodes sp tops 0 (List.replicate nodes.length false) with
    | none => false
    | some (a, _) => decide (a = nodes.length)
def spec_TreeOk.f (k : Nat) (l0_0 : List S56) (l0_1 : List Int) : Option Bool :=
  if l0_0.length > 4000 ∨ l0_1.length > 4000 then some false else if l0_0.all (spS k) = true then some (treeOkG l0_0 (spOf k) l0_1) else none
theorem fitsKids_congr {f g : Int → Int → Int → List Bool → Option (Int × List Bool)} (h : ∀ x c a s, f x c a s = g x c a s) (i : Int) (ks cs : List Int) (a : Int) (s : List Bool) : fitsKids f i ks cs a s = fitsKids g i ks cs a s := by
  have : f = g := by funext x c a s; exact h x c a s
  rw [this]
theorem sRdMem {nodes : List S56} {i : Int} (h0 : 0 ≤ i) (h1 : i < nodes.length) : rd_T56 nodes i ∈ nodes := by
  unfold rd_T56
  rw [List.getD_eq_getElem?_getD, List.getElem?_eq_getElem (by omega)]
  exact List.getElem_mem _
theorem info4b : (Try.prog.info? 4).map (fun i => (i.zero, i.size, i.bytes)) = some (some (.bool false), 1, 1) := by kernel_rfl
theorem madeB (n : Nat) : madeCells (Value.bool false).cells n = bA (List.replicate n false) := by
  apply Array.toList_inj.1
  show (madeCells #[Value.bool false] n).toList = _
  rw [toList_madeCells_one]
  simp [bA]
theorem mkBools (n : Nat) (hn : n ≤ 4000) (W : World) : (Instr.makeSlice 53 (.int .i64 (n : Int)) (.int .i64 (n : Int))).run Try.prog W = .ok (.slice (some ⟨W.heap.size, 0, none⟩) n n) (W.alloc (.cells (bA (List.replicate n false)) 4)) := by
  obtain ⟨i0, hi, hzz⟩ := Option.map_eq_some_iff.1 info4b
  simp only [Prod.mk.injEq] at hzz
  obtain ⟨hz0, hz1, hz2⟩ := hzz
  have h := run_make (P := Try.prog) W 53 4 i0 (.bool false) Try.underlying53 hi hz0 .i64 .i64 (n : Int) (n : Int) (by omega) (by omega) (by rw [hz2]; omega) (by omega)
  rw [hz1, Int.toNat_natCast, Nat.mul_one, madeB] at h
  exact h
set_option maxHeartbeats 8000000 in
set_option maxRecDepth 100000 in
theorem spec_TreeOk.calls (k : Nat) (A0_0 : Option Addr) (c0_0 : Nat) (l0_0 : List S56) (A0_1 : Option Addr) (c0_1 : Nat) (l0_1 : List Int) (r : Bool) (w : World) (hr0_0 : Kd.C k56 w A0_0 l0_0.length l0_0) (hc0_0 : l0_0.length ≤ c0_0) (hr0_1 : Kd.C (Kd.int .i64) w A0_1 l0_1.length l0_1) (hc0_1 : l0_1.length ≤ c0_1) (h : spec_TreeOk.f k l0_0 l0_1 = some r) :
    Calls Try.prog 13 #[.agg #[.slice A0_0 l0_0.length c0_0, .slice A0_1 l0_1.length c0_1]] w fun e w' => e = .returned (.bool r) ∧ Below w.heap.size w w' := by
  have hu141 := Try.underlying56
  have hu59 := Try.underlying29
  have HB := Aside0.mk (Below.refl w.heap.size w)
  unfold spec_TreeOk.f at h
  by_cases c1 : l0_0.length > 4000
  · rw [if_pos (Or.inl c1)] at h
    injection h with h
    subst h
    have cb : decide ((l0_0.length : Int) > 4000) = true := decide_eq_true (by omega)
    have cb2 : decide ((4000 : Int) < (l0_0.length : Int)) = true := decide_eq_true (by omega)
    clear c1 hr0_0 hr0_1
    go_enter Try.func13, Try.ntmps13
    go_wp2
    go_ret
    exact ⟨rfl, by repeat (first | exact HB.out | apply below_alloc | apply pw_below_drewN | apply below_drew1)⟩
  have cb : decide ((l0_0.length : Int) > 4000) = false := decide_eq_false (by omega)
  have cb2 : decide ((4000 : Int) < (l0_0.length : Int)) = false := decide_eq_false (by omega)
  by_cases c2 : l0_1.length > 4000
  · rw [if_pos (Or.inr c2)] at h
    injection h with h
    subst h
    have cc : decide ((l0_1.length : Int) > 4000) = true := decide_eq_true (by omega)
    have cc2 : decide ((4000 : Int) < (l0_1.length : Int)) = true := decide_eq_true (by omega)
    clear c1 c2 hr0_0 hr0_1
    go_enter Try.func13, Try.ntmps13
    go_wp2
    go_ret
    exact ⟨rfl, by repeat (first | exact HB.out | apply below_alloc | apply pw_below_drewN | apply below_drew1)⟩
  have cc : decide ((l0_1.length : Int) > 4000) = false := decide_eq_false (by omega)
  have cc2 : decide ((4000 : Int) < (l0_1.length : Int)) = false := decide_eq_false (by omega)
  rw [if_neg (by omega)] at h
  split at h
  rotate_left
  · cases h
  next hS =>
  injection h with h
  have HLEN := Aside0.mk (show l0_0.length ≤ 4000 by omega)
  have HLT := Aside0.mk (show l0_1.length ≤ 4000 by omega)
  have HR := Aside0.mk h
  have HS := Aside0.mk hS
  have HR0 := Aside0.mk hr0_0
  have HR1 := Aside0.mk hr0_1
  have hmk := mkBools l0_0.length (by omega)
  clear h hS c1 c2 hr0_0 hr0_1 hc0_0 hc0_1
  go_enter Try.func13, Try.ntmps13
  go_wp2
  obtain ⟨w2, hw2⟩ : ∃ w2, w2 = (w.alloc (.cells #[.slice A0_0 l0_0.length c0_0, .slice A0_1 l0_1.length c0_1] 29)).alloc (.cells (bA (List.replicate l0_0.length false)) 4) := ⟨_, rfl⟩
  rw [← hw2]
  have hg0 : w2.cell? ⟨w.heap.size, 0, none⟩ = some (.slice A0_0 l0_0.length c0_0) := by rw [hw2]; exact (blk_cell (blk_alloc (blk_new w _) _) 0).trans rfl
  have hg1 : w2.cell? ⟨w.heap.size, 1, none⟩ = some (.slice A0_1 l0_1.length c0_1) := by rw [hw2]; exact (blk_cell (blk_alloc (blk_new w _) _) 1).trans rfl
  obtain ⟨gs, hgs⟩ : ∃ gs, gs = w.heap.size + 1 := ⟨_, rfl⟩
  have HG2 : Aside0 (w2.heap[gs]? = some (.cells (bA (List.replicate l0_0.length false)) 4 (0, 0))) := ⟨by
    rw [hw2, hgs]
    have := blk_new (w.alloc (.cells #[.slice A0_0 l0_0.length c0_0, .slice A0_1 l0_1.length c0_1] 29)) (.cells (bA (List.replicate l0_0.length false)) 4)
    rw [World.size_alloc] at this
    exact this⟩
  have HB2 : Aside0 (Below w.heap.size w w2) := ⟨by rw [hw2]; exact below_alloc (below_alloc (Below.refl _ _) _) _⟩
  have hne : w.heap.size ≠ gs := by omega
  have HGS := Aside0.mk (show w.heap.size ≤ gs by omega)
  have HCL : Aside0 (∀ w', KeepBut w2 w' gs none → w'.cell? ⟨w.heap.size, 0, none⟩ = some (.slice A0_0 l0_0.length c0_0) ∧ w'.cell? ⟨w.heap.size, 1, none⟩ = some (.slice A0_1 l0_1.length c0_1)) := ⟨fun w' hk => ⟨keep_cell hk hg0 hne, keep_cell hk hg1 hne⟩⟩
  try rw [show (w.alloc (.cells #[.slice A0_0 l0_0.length c0_0, .slice A0_1 l0_1.length c0_1] 29)).heap.size = gs by rw [World.size_alloc, hgs]]
  try rw [← hgs]
  clear hw2 hgs hne hmk hg0 hg1
  go_loopg [4, 5] l0_1.length (fun kq v4 v5 w' => ∃ (j : Nat) (b : Int) (s2 : List Bool), v5 = .int .i64 (j : Int) ∧ v4 = .int .i64 b ∧ Aside0 (j + kq = l0_1.length) ∧ Aside0 (0 ≤ b ∧ b ≤ 4001) ∧ Aside0 (s2.length = l0_0.length) ∧ Aside0 (w'.heap[gs]? = some (.cells (bA s2) 4 (0, 0))) ∧ Aside0 (topsG l0_0 (spOf k) (l0_1.drop j) b s2 = topsG l0_0 (spOf k) l0_1 0 (List.replicate l0_0.length false)) ∧ Aside0 (KeepBut w2 w' gs none) ∧ Aside0 (Below w.heap.size w w'))
  case atStart => exact ⟨0, 0, _, rfl, rfl, ⟨by omega⟩, ⟨by omega⟩, ⟨List.length_replicate⟩, HG2, ⟨rfl⟩, ⟨KeepBut.refl _ _ _⟩, HB2⟩
  case round =>
    obtain ⟨j, b, s2, rfl, rfl, HX, HBB, HS2, HGJ, HF, HKJ, HBJ⟩ := hrel
    obtain ⟨g0, g1⟩ := HCL.out wr HKJ.out
    by_cases c1 : j < l0_1.length
    · have cbj : decide ((j : Int) < (l0_1.length : Int)) = true := by simpa using c1
      obtain ⟨ad, ead, hx⟩ := Kd.at_int HR1.out (j : Int) (by omega) (by omega)
      cases ead
      rw [Int.toNat_natCast] at hx
      have hrd : rd l0_1 (j : Int) = l0_1[j] := by
        unfold rd
        rw [Int.toNat_natCast, List.getD_eq_getElem?_getD, List.getElem?_eq_getElem c1]
        rfl
      have hn := HF.out
      rw [List.drop_eq_getElem_cons c1, ← hrd] at hn
      generalize rd l0_1 (j : Int) = x at hx hn
      have hn2 : (match fitsG l0_0 (spOf k) (x.toNat + 1) x 9 b s2 with
        | none => none
        | some (b', s') => topsG l0_0 (spOf k) (l0_1.drop (j + 1)) b' s') = topsG l0_0 (spOf k) l0_1 0 (List.replicate l0_0.length false) := hn
      have HN2 := Aside0.mk hn2
      have hS : ∀ w', KeepBut wr w' gs none → w'.cell? ⟨w.heap.size, 0, none⟩ = some (.slice A0_0 l0_0.length c0_0) ∧ w'.cell? ⟨w.heap.size, 1, none⟩ = some (.slice (some ad) l0_1.length c0_1) ∧ w'.cell? (ad.add j) = some (.int .i64 x) := fun w' hk => ⟨(HCL.out w' (HKJ.out.trans hk (.inl rfl))).1, (HCL.out w' (HKJ.out.trans hk (.inl rfl))).2, keep_cell hk (pw_cell_below HBJ.out hx) (by have := World.block_lt_of_cell? w _ hx; have := HGS.out; omega)⟩
      have hj0 : (0 : Int) ≤ (j : Int) := by omega
      have HS9 := Aside0.mk hS
      have HGX : Aside0 (∀ W, Below wr.heap.size wr W → W.heap[gs]? = some (.cells (bA s2) 4 (0, 0))) := ⟨fun W hb => blk_below HGJ.out hb⟩
      have HBX : Aside0 (∀ W, Below wr.heap.size wr W → Below w.heap.size w W) := ⟨fun W hb => below_step HBJ.out hb⟩
      have HCALL : Aside0 (∀ W, W.heap[gs]? = some (.cells (bA s2) 4 (0, 0)) → Below w.heap.size w W → Calls Try.prog 26 #[.agg #[.slice A0_0 l0_0.length c0_0, .slice (some ad) l0_1.length c0_1], .int .i64 x, .int .i64 9, .int .i64 b, .slice (some ⟨gs, 0, none⟩) l0_0.length l0_0.length] W (FitsPost (fitsG l0_0 (spOf k) (x.toNat + 1) x 9 b s2) l0_0.length gs w W)) := ⟨fun W hg hb => fits126.calls k w A0_0 c0_0 l0_0 (some ad) c0_1 l0_1 gs HR0.out HLEN.out HGS.out HS.out (x.toNat + 1) x 9 b s2 W (by omega) HBB.out.1 HBB.out.2 HS2.out hg hb⟩
      clear hn hn2 hrd hS hx
      cases hf : fitsG l0_0 (spOf k) (x.toNat + 1) x 9 b s2 with
      | none =>
        rw [hf] at HCALL HN2
        have hr : r = false := by
          rw [← HR.out]
          unfold treeOkG
          rw [← HN2.out]
        have HRF := Aside0.mk hr
        clear hr hf
        go_wp2
        go_region_held3 (fun w' => w'.cell? ⟨w.heap.size, 0, none⟩ = some (.slice A0_0 l0_0.length c0_0) ∧ w'.cell? ⟨w.heap.size, 1, none⟩ = some (.slice (some ad) l0_1.length c0_1) ∧ w'.cell? (ad.add j) = some (.int .i64 x)) (exact HS9.out _ (by first | exact h5 | exact KeepBut.of_below (by repeat (with_reducible first | exact Below.refl _ _ | apply pw_below_drewN | apply below_drew1)) gs none))
            (first | (go_at_call 26; (with_reducible refine (HCALL.out _ (HGX.out _ (by repeat (with_reducible first | exact Below.refl _ _ | apply pw_below_drewN | apply below_drew1))) (HBX.out _ (by repeat (with_reducible first | exact Below.refl _ _ | apply pw_below_drewN | apply below_drew1)))).mono ?_); rintro e w7 ⟨r1, ok, s4, rfl, h1, h2, h3, h4, h5, h6⟩; obtain rfl := h2 rfl; clear h1 h2))
        go_wp2
        go_ret
        exact ⟨by rw [HRF.out]; rfl, h6⟩
      | some p =>
        obtain ⟨b3, s3⟩ := p
        rw [hf] at HCALL HN2
        obtain ⟨hi1, hi2, hi3⟩ := fitsG_in hf
        have HB3 : Aside0 (0 ≤ b3 ∧ b3 ≤ 4001) := ⟨by have := HLEN.out; omega⟩
        clear hf hi1 hi2 hi3
        go_wp2
        go_region_held3 (fun w' => w'.cell? ⟨w.heap.size, 0, none⟩ = some (.slice A0_0 l0_0.length c0_0) ∧ w'.cell? ⟨w.heap.size, 1, none⟩ = some (.slice (some ad) l0_1.length c0_1) ∧ w'.cell? (ad.add j) = some (.int .i64 x)) (exact HS9.out _ (by first | exact h5 | exact KeepBut.of_below (by repeat (with_reducible first | exact Below.refl _ _ | apply pw_below_drewN | apply below_drew1)) gs none))
            (first | (go_at_call 26; (with_reducible refine (HCALL.out _ (HGX.out _ (by repeat (with_reducible first | exact Below.refl _ _ | apply pw_below_drewN | apply below_drew1))) (HBX.out _ (by repeat (with_reducible first | exact Below.refl _ _ | apply pw_below_drewN | apply below_drew1)))).mono ?_); rintro e w7 ⟨r1, ok, s4, rfl, h1, h2, h3, h4, h5, h6⟩; obtain ⟨rfl, rfl, rfl⟩ := h1 _ _ rfl; clear h1 h2))
        go_wp2
        go_roundg (l0_1.length - (j + 1))
        case measure => have := HX.out; omega
        case rel => exact ⟨j + 1, r1, s4, (by first | rfl | rw [sTW j (by have := HLT.out; have := HX.out; omega)]), rfl, ⟨by have := HX.out; omega⟩, HB3, ⟨h3⟩, ⟨h4⟩, HN2, ⟨HKJ.out.trans h5 (.inl rfl)⟩, ⟨h6⟩⟩
    · have cbj : decide ((j : Int) < (l0_1.length : Int)) = false := by simpa using c1
      have ej : j = l0_1.length := by have := HX.out; omega
      have hn := HF.out
      rw [ej, List.drop_length] at hn
      have hn2 : some (b, s2) = topsG l0_0 (spOf k) l0_1 0 (List.replicate l0_0.length false) := hn
      have hr : r = (b == (l0_0.length : Int)) := by
        rw [← HR.out]
        unfold treeOkG
        rw [← hn2, Bool.eq_iff_iff]
        simp
      have HRF := Aside0.mk hr
      clear hn hn2 hr
      go_wp2
      go_ret
      exact ⟨by rw [HRF.out]; rfl, HBJ.out⟩

end Go.Proofs.Ytiiakeakfllpjaa.PFnExactFold
