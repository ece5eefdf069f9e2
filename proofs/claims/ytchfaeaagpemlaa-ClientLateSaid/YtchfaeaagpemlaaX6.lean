/- Layer 31: opening clients and answers.
Layer 31: Take, where the broker is not the leader.
Layer 31: the places of sequences; a wait is taken out.
Layer 31: a sequence goes on behind a batch (where there was none). -/
import Derived.Test.YtchfaeaagpemlaaX5
import Derived.Test.YtchfaeaagpemlaaEo
import Derived.Test.YtchfaeaagpemlaaRows
import Derived.OpenShut
import Derived.ChangeSame
import Derived.Deep.Strs
import Derived.Lib.SmallJoins
import Derived.Test.YtchfaeaagpemlaaEp
set_option maxRecDepth 100000
namespace Go.Proofs.Ytchfaeaagpemlaa
open Go Go.Eng Go.ChangeShapes Go.WideShapes Go.ChangeAt Go.RowKit
theorem own_knob : ownKnob Try.prog.godebug = none := by kernel_rfl
theorem laid_out : laidOutB Try.prog = true := by kernel_rfl
theorem c_int : Try.prog.cellsOf 3 = 1 := by kernel_rfl
theorem c_i64 : Try.prog.cellsOf 2 = 1 := by kernel_rfl
theorem c_rk : Try.prog.cellsOf 29 = 1 := by kernel_rfl
theorem c_mk : Try.prog.cellsOf 33 = 1 := by kernel_rfl
theorem c_er : Try.prog.cellsOf 50 = 1 := by kernel_rfl
theorem c_ph : Try.prog.cellsOf 51 = 1 := by kernel_rfl
theorem c_str : Try.prog.cellsOf 9 = 1 := by kernel_rfl
theorem c_bool : Try.prog.cellsOf 4 = 1 := by kernel_rfl
theorem c_bys : Try.prog.cellsOf 30 = 1 := by kernel_rfl
theorem c_txs : Try.prog.cellsOf 34 = 1 := by kernel_rfl
theorem c_pls : Try.prog.cellsOf 52 = 1 := by kernel_rfl
theorem c_wts : Try.prog.cellsOf 22 = 1 := by kernel_rfl
theorem c_sqs : Try.prog.cellsOf 23 = 1 := by kernel_rfl
theorem c_batch : Try.prog.cellsOf 32 = 4 := by kernel_rfl
theorem c_cmd : Try.prog.cellsOf 38 = 11 := by kernel_rfl
theorem c_rq : Try.prog.cellsOf 40 = 23 := by kernel_rfl
theorem c_pl : Try.prog.cellsOf 36 = 2 := by kernel_rfl
theorem c_ans : Try.prog.cellsOf 54 = 6 := by kernel_rfl
theorem c_wt : Try.prog.cellsOf 42 = 26 := by kernel_rfl
theorem c_sq : Try.prog.cellsOf 65 = 3 := by kernel_rfl
theorem c_cl : Try.prog.cellsOf 25 = 10 := by kernel_rfl
theorem c_rp : Try.prog.cellsOf 56 = 16 := by kernel_rfl
theorem c_u8 : Try.prog.cellsOf 5 = 1 := by kernel_rfl
theorem c_by : Try.prog.cellsOf 71 = 1 := by kernel_rfl
theorem b_by : Try.prog.bytesOf 71 = 24 := by kernel_rfl
theorem b_str : Try.prog.bytesOf 9 = 16 := by kernel_rfl
theorem b_u8 : Try.prog.bytesOf 5 = 1 := by kernel_rfl
theorem mem_weightsAll {H : Type} {P : Program} {e : TypeId} : ∀ {l : List (DataW H)} {d : DataW H} {k : Nat}, d ∈ l → k ∈ d.weights P e → k ∈ DataW.weightsAll P e l
  | d0 :: l, d, k, hd, hk => by
    simp only [DataW.weightsAll, List.mem_append]
    rcases List.mem_cons.1 hd with rfl | h
    · exact .inl hk
    · exact .inr (mem_weightsAll h hk)
section
variable {H : Type} {enc : TypeId × Value → H} {W : World}
theorem rd_openD {α : Type} {t e sz fuel : Nat} {enc' : α → List Value} {cs : List Value} {x : DataW H × List MemPlace} {wf : α → Prop} (ht : Try.prog.underlying t = some (.slice e)) (hc : Try.prog.cellsOf e = sz) (hpos : 0 < sz) (hsz : ∀ x, (enc' x).length = sz)
    (hel : ∀ n cs y, DataW.trod enc Try.prog W 0 (fun _ => true) true n e cs = some y → (∀ k ∈ y.1.weights Try.prog e, k ≤ reachBytes) → ∃ x, cs = enc' x ∧ wf x)
    (h : DataW.trod enc Try.prog W 0 (fun _ => true) true fuel t cs = some x) (hwt : ∀ k ∈ x.1.weights Try.prog t, k ≤ reachBytes) :
    ∃ (v : OV) (xs : List α), cs = [v.1] ∧ Rd W.heap sz enc' v.1 xs ∧ (∀ x ∈ xs, wf x) ∧ xs.length * Try.prog.bytesOf e ≤ reachBytes := by
  rcases Deep.open_slice ht h with ⟨h1, h2⟩ | ⟨a, len, cap, m, n, D, Pl, h1, _, hlc, hmx, hm, hx, hcell⟩
  · exact ⟨⟨.slice none 0 0, rfl⟩, [], h1, Rd.nil _ _ _, by simp, by simp⟩
  · simp only [if_true] at hm
    subst hm
    by_cases hcap : m = 0
    · subst hcap
      obtain rfl : len = 0 := by omega
      exact ⟨⟨.slice (some a) 0 0, rfl⟩, [], h1, Rd.empty _ _ _ _, by simp, by simp⟩
    have hsp : a.spot = none := by
      obtain ⟨cs', g1, _⟩ := hcell 0 (by omega)
      obtain ⟨_, _, hg⟩ := World.cells?_some g1
      have := hg 0 (by rw [hc]; exact hpos)
      have e0 : (a.add (0 * Try.prog.cellsOf e)).add 0 = a := by simp [Addr.add]
      rw [e0] at this
      obtain ⟨v, hv⟩ : ∃ v, cs'[0]? = some v := by
        obtain ⟨_, hl, _⟩ := World.cells?_some g1
        exact ⟨cs'[0]'(by rw [hl, hc]; exact hpos), List.getElem?_eq_getElem _⟩
      rw [hv] at this
      exact World.cell?_spot this
    subst hx
    have hwt' : (len + (m - len)) * Try.prog.bytesOf e ≤ reachBytes ∧ ∀ i, i < len → ∀ k ∈ (D i).weights Try.prog e, k ≤ reachBytes := by
      simp only [DataW.weights, ht] at hwt
      refine ⟨?_, fun i hi k hk => hwt k ?_⟩
      · have := hwt _ (List.mem_cons_self ..)
        simpa using this
      · refine List.mem_cons_of_mem _ (List.mem_append_left _ ?_)
        exact mem_weightsAll (List.mem_map.2 ⟨i, by simpa using hi, rfl⟩) hk
    obtain ⟨hbig, hwe⟩ := hwt'
    have key : ∀ i, i < len → ∃ x, (W.cells? 0 (a.add (i * Try.prog.cellsOf e)) (Try.prog.cellsOf e)) = some (enc' x) ∧ wf x := by
      intro i hi
      obtain ⟨cs', g1, g2⟩ := hcell i (by omega)
      obtain ⟨x, rfl, hw⟩ := hel _ _ _ g2 (fun k hk => hwe i hi k hk)
      exact ⟨x, g1, hw⟩
    have hxs : ∃ xs : List α, xs.length = len ∧ ∀ (i : Nat) x, xs[i]? = some x → (W.cells? 0 (a.add (i * Try.prog.cellsOf e)) (Try.prog.cellsOf e)) = some (enc' x) ∧ wf x := by
      clear hcell h1 hlc hbig hwt hwe h
      induction len with
      | zero => exact ⟨[], rfl, by simp⟩
      | succ k ih =>
        obtain ⟨xs, g1, g2⟩ := ih (fun i hi => key i (by omega))
        obtain ⟨x, g3⟩ := key k (by omega)
        refine ⟨xs ++ [x], by simp [g1], fun i y hy => ?_⟩
        by_cases hi : i < xs.length
        · rw [List.getElem?_append_left hi] at hy; exact g2 i y hy
        · have : i = k := by have := (List.getElem?_eq_some_iff.1 hy).1; simp at this; omega
          subst this
          rw [List.getElem?_append_right (by omega)] at hy
          simp [g1] at hy
          subst hy; exact g3
    obtain ⟨xs, hlen, hxs⟩ := hxs
    refine ⟨⟨.slice (some a) len m, rfl⟩, xs, h1, ⟨.inr ⟨a.block, a.off, m, ?_, by omega⟩, by unfold maxLen at hmx; omega, fun x _ => hsz x, ?_⟩, ?_, by rw [hlen]; exact Nat.le_trans (Nat.mul_le_mul_right _ (Nat.le_add_right _ _)) hbig⟩
    · rw [hlen]
      have : a = ⟨a.block, a.off, none⟩ := by cases a; simp at hsp; simp [hsp]
      rw [← this]
    · intro i x hi j u hu
      obtain ⟨_, hl', hg⟩ := World.cells?_some (hxs i x hi).1
      have hj : j < Try.prog.cellsOf e := by have := (List.getElem?_eq_some_iff.1 hu).1; rw [hsz] at this; omega
      have := hg j hj
      rw [hu, add_at hsp, hc] at this
      have e2 : (Addr.add ⟨a.block, a.off + i * sz, none⟩ j) = ⟨a.block, a.off + i * sz + j, none⟩ := add_at rfl j
      rw [e2] at this
      exact Cell.of_get this
    · intro x hx'
      obtain ⟨i, hi, rfl⟩ := List.getElem_of_mem hx'
      exact (hxs i _ (List.getElem?_eq_getElem hi)).2
theorem st_open {t fuel : Nat} {fs : Array Field} {cs : List Value} {x : DataW H × List MemPlace} (ht : Try.prog.underlying t = some (.struct fs)) (h : DataW.trod enc Try.prog W 0 (fun _ => true) true fuel t cs = some x) (hwt : ∀ k ∈ x.1.weights Try.prog t, k ≤ reachBytes) :
    ∃ n, cs.length = Try.prog.cellsOf t ∧ ∀ (i : Nat) (f : Field), fs[i]? = some f → ∃ y, DataW.trod enc Try.prog W 0 (fun _ => true) true n f.type ((cs.drop f.offset).take (Try.prog.cellsOf f.type)) = some y ∧ ∀ k ∈ y.1.weights Try.prog f.type, k ≤ reachBytes := by
  obtain ⟨xs, n, _, rfl, hl, hlen, hf⟩ := DataW.trod_struct ht h
  refine ⟨n, hl, fun i f hi => ?_⟩
  have hi' : i < xs.length := by rw [hlen]; exact (Array.getElem?_eq_some_iff.1 hi).1
  have h1 := hf i f hi
  rw [List.getElem?_eq_getElem hi'] at h1
  refine ⟨_, h1, fun k hk => hwt k ?_⟩
  simp only [DataW.weights, ht]
  refine DataW.weights_mem_each (j := i) (t := f.type) (d := xs[i].1) ?_ (by simp [List.getElem?_eq_getElem hi']) k hk
  simp [hi]
theorem op_bytes {fuel : Nat} {cs : List Value} {x : DataW H × List MemPlace} (h : DataW.trod enc Try.prog W 0 (fun _ => true) true fuel 30 cs = some x) (hwt : ∀ k ∈ x.1.weights Try.prog 30, k ≤ reachBytes) :
    ∃ (v : OV) (ys : List (OV × List Int)), cs = [v.1] ∧ Rd W.heap 1 brE v.1 ys ∧ (∀ y ∈ ys, Rd W.heap 1 u8E y.1.1 y.2 ∧ y.2.length ≤ 140737488355328) ∧ ys.length * 24 ≤ 140737488355328 := by
  obtain ⟨v, ys, h1, h2, h3, h4⟩ := rd_openD (enc' := brE) (wf := fun (y : OV × List Int) => Rd W.heap 1 u8E y.1.1 y.2 ∧ y.2.length ≤ 140737488355328) Try.underlying30 c_by (by decide) (fun _ => rfl) (fun n cs y hy hk => by
    obtain ⟨u, bs, g1, g2, _, g4⟩ := rd_openD (enc' := u8E) (wf := fun _ => True) Try.underlying71 c_u8 (by decide) (fun _ => rfl) (fun n cs y hy _ => by
      obtain ⟨a, rfl, _, hw⟩ := DataW.trod_int Try.underlying5 hy
      exact ⟨a, rfl, trivial⟩) hy hk
    rw [b_u8] at g4
    exact ⟨(u, bs), g1, g2, by unfold reachBytes at g4; show bs.length ≤ _; omega⟩) h hwt
  rw [b_by] at h4
  exact ⟨v, ys, h1, h2, h3, by unfold reachBytes at h4; omega⟩
theorem op_texts {fuel : Nat} {cs : List Value} {x : DataW H × List MemPlace} (h : DataW.trod enc Try.prog W 0 (fun _ => true) true fuel 34 cs = some x) (hwt : ∀ k ∈ x.1.weights Try.prog 34, k ≤ reachBytes) :
    ∃ (v : OV) (xs : List ByteArray), cs = [v.1] ∧ Rd W.heap 1 sE v.1 xs ∧ xs.length * 16 ≤ 140737488355328 := by
  obtain ⟨v, xs, h1, h2, _, h4⟩ := rd_openD Try.underlying34 c_str (by decide) (fun _ => rfl) (wf := fun _ => True) (enc' := sE) (fun n cs y hy _ => by
    obtain ⟨a, rfl, _, hw⟩ := DataW.trod_string Try.underlying9 hy
    exact ⟨a, rfl, trivial⟩) h hwt
  rw [b_str] at h4
  exact ⟨v, xs, h1, h2, by unfold reachBytes at h4; omega⟩
theorem op_one {t e fuel : Nat} {cs : List Value} {x : DataW H × List MemPlace} (ht : Try.prog.underlying t = some (.slice e)) (h : DataW.trod enc Try.prog W 0 (fun _ => true) true fuel t cs = some x) : ∃ v : OV, cs = [v.1] := by
  rcases Deep.open_slice ht h with ⟨h1, _⟩ | ⟨a, len, cap, m, n, D, Pl, h1, _⟩
  · exact ⟨⟨_, rfl⟩, h1⟩
  · exact ⟨⟨_, rfl⟩, h1⟩
theorem op_batch {fuel : Nat} {cs : List Value} {x : DataW H × List MemPlace} (h : DataW.trod enc Try.prog W 0 (fun _ => true) true fuel 32 cs = some x) (hwt : ∀ k ∈ x.1.weights Try.prog 32, k ≤ reachBytes) :
    ∃ (a b c : Int) (v : OV) (ys : List (OV × List Int)), cs = [.int .i64 a, .int .i64 b, .int .i64 c, v.1] ∧ Rd W.heap 1 brE v.1 ys ∧ (∀ y ∈ ys, Rd W.heap 1 u8E y.1.1 y.2 ∧ y.2.length ≤ 140737488355328) ∧ ys.length * 24 ≤ 140737488355328 := by
  obtain ⟨n, hl, hf⟩ := st_open Try.underlying32 h hwt
  rw [c_batch] at hl
  match cs, hl with
  | [z0, z1, z2, z3], _ =>
    obtain ⟨y0, g0, k0⟩ := hf 0 _ rfl
    have g0 : DataW.trod enc Try.prog W 0 (fun _ => true) true n 2 ((([z0, z1, z2, z3] : List Value).drop 0).take (Try.prog.cellsOf 2)) = some y0 := g0
    have k0 : ∀ k ∈ y0.1.weights Try.prog 2, k ≤ reachBytes := k0
    rw [c_i64] at g0
    obtain ⟨a0, h0, _⟩ := DataW.trod_int Try.underlying2 g0
    obtain ⟨y1, g1, k1⟩ := hf 1 _ rfl
    have g1 : DataW.trod enc Try.prog W 0 (fun _ => true) true n 3 ((([z0, z1, z2, z3] : List Value).drop 1).take (Try.prog.cellsOf 3)) = some y1 := g1
    have k1 : ∀ k ∈ y1.1.weights Try.prog 3, k ≤ reachBytes := k1
    rw [c_int] at g1
    obtain ⟨a1, h1, _⟩ := DataW.trod_int Try.underlying3 g1
    obtain ⟨y2, g2, k2⟩ := hf 2 _ rfl
    have g2 : DataW.trod enc Try.prog W 0 (fun _ => true) true n 2 ((([z0, z1, z2, z3] : List Value).drop 2).take (Try.prog.cellsOf 2)) = some y2 := g2
    have k2 : ∀ k ∈ y2.1.weights Try.prog 2, k ≤ reachBytes := k2
    rw [c_i64] at g2
    obtain ⟨a2, h2, _⟩ := DataW.trod_int Try.underlying2 g2
    obtain ⟨y3, g3, k3⟩ := hf 3 _ rfl
    have g3 : DataW.trod enc Try.prog W 0 (fun _ => true) true n 30 ((([z0, z1, z2, z3] : List Value).drop 3).take (Try.prog.cellsOf 30)) = some y3 := g3
    have k3 : ∀ k ∈ y3.1.weights Try.prog 30, k ≤ reachBytes := k3
    rw [c_bys] at g3
    obtain ⟨a3, l3, h3, r3, s3, q3⟩ := op_bytes g3 k3
    simp at h0
    simp at h1
    simp at h2
    simp at h3
    subst h0
    subst h1
    subst h2
    subst h3
    exact ⟨_, _, _, _, _, rfl, r3, s3, q3⟩
theorem op_pl {fuel : Nat} {cs : List Value} {x : DataW H × List MemPlace} (h : DataW.trod enc Try.prog W 0 (fun _ => true) true fuel 36 cs = some x) (hwt : ∀ k ∈ x.1.weights Try.prog 36, k ≤ reachBytes) :
    ∃ (a : ByteArray) (b : Int), cs = [.string a, .int .i64 b] ∧ a.size ≤ maxLen := by
  obtain ⟨n, hl, hf⟩ := st_open Try.underlying36 h hwt
  rw [c_pl] at hl
  match cs, hl with
  | [z0, z1], _ =>
    obtain ⟨y0, g0, k0⟩ := hf 0 _ rfl
    have g0 : DataW.trod enc Try.prog W 0 (fun _ => true) true n 9 ((([z0, z1] : List Value).drop 0).take (Try.prog.cellsOf 9)) = some y0 := g0
    have k0 : ∀ k ∈ y0.1.weights Try.prog 9, k ≤ reachBytes := k0
    rw [c_str] at g0
    obtain ⟨a0, h0, _, t0⟩ := DataW.trod_string Try.underlying9 g0
    obtain ⟨y1, g1, k1⟩ := hf 1 _ rfl
    have g1 : DataW.trod enc Try.prog W 0 (fun _ => true) true n 3 ((([z0, z1] : List Value).drop 1).take (Try.prog.cellsOf 3)) = some y1 := g1
    have k1 : ∀ k ∈ y1.1.weights Try.prog 3, k ≤ reachBytes := k1
    rw [c_int] at g1
    obtain ⟨a1, h1, _⟩ := DataW.trod_int Try.underlying3 g1
    simp at h0
    simp at h1
    subst h0
    subst h1
    exact ⟨_, _, rfl, t0⟩
theorem op_cmd {fuel : Nat} {cs : List Value} {x : DataW H × List MemPlace} (h : DataW.trod enc Try.prog W 0 (fun _ => true) true fuel 38 cs = some x) (hwt : ∀ k ∈ x.1.weights Try.prog 38, k ≤ reachBytes) :
    ∃ (k : Int) (g nm : ByteArray) (n : Int) (v : OV) (xs : List ByteArray) (pt : ByteArray) (pp mo mn mc mk : Int), cs = [.int .u8 k, .string g, .string nm, .int .i64 n, v.1, .string pt, .int .i64 pp, .int .i64 mo, .int .i64 mn, .int .i64 mc, .int .i64 mk] ∧ Rd W.heap 1 sE v.1 xs ∧ xs.length * 16 ≤ 140737488355328 := by
  obtain ⟨n, hl, hf⟩ := st_open Try.underlying38 h hwt
  rw [c_cmd] at hl
  match cs, hl with
  | [z0, z1, z2, z3, z4, z5, z6, z7, z8, z9, z10], _ =>
    obtain ⟨y0, g0, k0⟩ := hf 0 _ rfl
    have g0 : DataW.trod enc Try.prog W 0 (fun _ => true) true n 33 ((([z0, z1, z2, z3, z4, z5, z6, z7, z8, z9, z10] : List Value).drop 0).take (Try.prog.cellsOf 33)) = some y0 := g0
    have k0 : ∀ k ∈ y0.1.weights Try.prog 33, k ≤ reachBytes := k0
    rw [c_mk] at g0
    obtain ⟨a0, h0, _⟩ := DataW.trod_int Try.underlying33 g0
    obtain ⟨y1, g1, k1⟩ := hf 1 _ rfl
    have g1 : DataW.trod enc Try.prog W 0 (fun _ => true) true n 9 ((([z0, z1, z2, z3, z4, z5, z6, z7, z8, z9, z10] : List Value).drop 1).take (Try.prog.cellsOf 9)) = some y1 := g1
    have k1 : ∀ k ∈ y1.1.weights Try.prog 9, k ≤ reachBytes := k1
    rw [c_str] at g1
    obtain ⟨a1, h1, _, t1⟩ := DataW.trod_string Try.underlying9 g1
    obtain ⟨y2, g2, k2⟩ := hf 2 _ rfl
    have g2 : DataW.trod enc Try.prog W 0 (fun _ => true) true n 9 ((([z0, z1, z2, z3, z4, z5, z6, z7, z8, z9, z10] : List Value).drop 2).take (Try.prog.cellsOf 9)) = some y2 := g2
    have k2 : ∀ k ∈ y2.1.weights Try.prog 9, k ≤ reachBytes := k2
    rw [c_str] at g2
    obtain ⟨a2, h2, _, t2⟩ := DataW.trod_string Try.underlying9 g2
    obtain ⟨y3, g3, k3⟩ := hf 3 _ rfl
    have g3 : DataW.trod enc Try.prog W 0 (fun _ => true) true n 3 ((([z0, z1, z2, z3, z4, z5, z6, z7, z8, z9, z10] : List Value).drop 3).take (Try.prog.cellsOf 3)) = some y3 := g3
    have k3 : ∀ k ∈ y3.1.weights Try.prog 3, k ≤ reachBytes := k3
    rw [c_int] at g3
    obtain ⟨a3, h3, _⟩ := DataW.trod_int Try.underlying3 g3
    obtain ⟨y4, g4, k4⟩ := hf 4 _ rfl
    have g4 : DataW.trod enc Try.prog W 0 (fun _ => true) true n 34 ((([z0, z1, z2, z3, z4, z5, z6, z7, z8, z9, z10] : List Value).drop 4).take (Try.prog.cellsOf 34)) = some y4 := g4
    have k4 : ∀ k ∈ y4.1.weights Try.prog 34, k ≤ reachBytes := k4
    rw [c_txs] at g4
    obtain ⟨a4, l4, h4, r4, q4⟩ := op_texts g4 k4
    obtain ⟨y5, g5, k5⟩ := hf 5 _ rfl
    have g5 : DataW.trod enc Try.prog W 0 (fun _ => true) true n 36 ((([z0, z1, z2, z3, z4, z5, z6, z7, z8, z9, z10] : List Value).drop 5).take (Try.prog.cellsOf 36)) = some y5 := g5
    have k5 : ∀ k ∈ y5.1.weights Try.prog 36, k ≤ reachBytes := k5
    rw [c_pl] at g5
    obtain ⟨p0, p1, h5, pt⟩ := op_pl g5 k5
    obtain ⟨y6, g6, k6⟩ := hf 6 _ rfl
    have g6 : DataW.trod enc Try.prog W 0 (fun _ => true) true n 2 ((([z0, z1, z2, z3, z4, z5, z6, z7, z8, z9, z10] : List Value).drop 7).take (Try.prog.cellsOf 2)) = some y6 := g6
    have k6 : ∀ k ∈ y6.1.weights Try.prog 2, k ≤ reachBytes := k6
    rw [c_i64] at g6
    obtain ⟨a6, h6, _⟩ := DataW.trod_int Try.underlying2 g6
    obtain ⟨y7, g7, k7⟩ := hf 7 _ rfl
    have g7 : DataW.trod enc Try.prog W 0 (fun _ => true) true n 2 ((([z0, z1, z2, z3, z4, z5, z6, z7, z8, z9, z10] : List Value).drop 8).take (Try.prog.cellsOf 2)) = some y7 := g7
    have k7 : ∀ k ∈ y7.1.weights Try.prog 2, k ≤ reachBytes := k7
    rw [c_i64] at g7
    obtain ⟨a7, h7, _⟩ := DataW.trod_int Try.underlying2 g7
    obtain ⟨y8, g8, k8⟩ := hf 8 _ rfl
    have g8 : DataW.trod enc Try.prog W 0 (fun _ => true) true n 3 ((([z0, z1, z2, z3, z4, z5, z6, z7, z8, z9, z10] : List Value).drop 9).take (Try.prog.cellsOf 3)) = some y8 := g8
    have k8 : ∀ k ∈ y8.1.weights Try.prog 3, k ≤ reachBytes := k8
    rw [c_int] at g8
    obtain ⟨a8, h8, _⟩ := DataW.trod_int Try.underlying3 g8
    obtain ⟨y9, g9, k9⟩ := hf 9 _ rfl
    have g9 : DataW.trod enc Try.prog W 0 (fun _ => true) true n 3 ((([z0, z1, z2, z3, z4, z5, z6, z7, z8, z9, z10] : List Value).drop 10).take (Try.prog.cellsOf 3)) = some y9 := g9
    have k9 : ∀ k ∈ y9.1.weights Try.prog 3, k ≤ reachBytes := k9
    rw [c_int] at g9
    obtain ⟨a9, h9, _⟩ := DataW.trod_int Try.underlying3 g9
    simp at h0
    simp at h1
    simp at h2
    simp at h3
    simp at h4
    simp at h5
    simp at h6
    simp at h7
    simp at h8
    simp at h9
    subst h0
    subst h1
    subst h2
    subst h3
    subst h4
    obtain ⟨rfl, rfl⟩ := h5
    subst h6
    subst h7
    subst h8
    subst h9
    exact ⟨_, _, _, _, _, _, _, _, _, _, _, _, rfl, r4, q4⟩
theorem op_rq {fuel : Nat} {cs : List Value} {x : DataW H × List MemPlace} (h : DataW.trod enc Try.prog W 0 (fun _ => true) true fuel 40 cs = some x) (hwt : ∀ k ∈ x.1.weights Try.prog 40, k ≤ reachBytes) :
    ∃ r : RQ, cs = rqE r ∧ RqRd W.heap r ∧ RqSz r ∧ r.topic.size ≤ maxLen := by
  obtain ⟨n, hl, hf⟩ := st_open Try.underlying40 h hwt
  rw [c_rq] at hl
  match cs, hl with
  | [z0, z1, z2, z3, z4, z5, z6, z7, z8, z9, z10, z11, z12, z13, z14, z15, z16, z17, z18, z19, z20, z21, z22], _ =>
    obtain ⟨y0, g0, k0⟩ := hf 0 _ rfl
    have g0 : DataW.trod enc Try.prog W 0 (fun _ => true) true n 29 ((([z0, z1, z2, z3, z4, z5, z6, z7, z8, z9, z10, z11, z12, z13, z14, z15, z16, z17, z18, z19, z20, z21, z22] : List Value).drop 0).take (Try.prog.cellsOf 29)) = some y0 := g0
    have k0 : ∀ k ∈ y0.1.weights Try.prog 29, k ≤ reachBytes := k0
    rw [c_rk] at g0
    obtain ⟨a0, h0, _⟩ := DataW.trod_int Try.underlying29 g0
    obtain ⟨y1, g1, k1⟩ := hf 1 _ rfl
    have g1 : DataW.trod enc Try.prog W 0 (fun _ => true) true n 3 ((([z0, z1, z2, z3, z4, z5, z6, z7, z8, z9, z10, z11, z12, z13, z14, z15, z16, z17, z18, z19, z20, z21, z22] : List Value).drop 1).take (Try.prog.cellsOf 3)) = some y1 := g1
    have k1 : ∀ k ∈ y1.1.weights Try.prog 3, k ≤ reachBytes := k1
    rw [c_int] at g1
    obtain ⟨a1, h1, _⟩ := DataW.trod_int Try.underlying3 g1
    obtain ⟨y2, g2, k2⟩ := hf 2 _ rfl
    have g2 : DataW.trod enc Try.prog W 0 (fun _ => true) true n 3 ((([z0, z1, z2, z3, z4, z5, z6, z7, z8, z9, z10, z11, z12, z13, z14, z15, z16, z17, z18, z19, z20, z21, z22] : List Value).drop 2).take (Try.prog.cellsOf 3)) = some y2 := g2
    have k2 : ∀ k ∈ y2.1.weights Try.prog 3, k ≤ reachBytes := k2
    rw [c_int] at g2
    obtain ⟨a2, h2, _⟩ := DataW.trod_int Try.underlying3 g2
    obtain ⟨y3, g3, k3⟩ := hf 3 _ rfl
    have g3 : DataW.trod enc Try.prog W 0 (fun _ => true) true n 9 ((([z0, z1, z2, z3, z4, z5, z6, z7, z8, z9, z10, z11, z12, z13, z14, z15, z16, z17, z18, z19, z20, z21, z22] : List Value).drop 3).take (Try.prog.cellsOf 9)) = some y3 := g3
    have k3 : ∀ k ∈ y3.1.weights Try.prog 9, k ≤ reachBytes := k3
    rw [c_str] at g3
    obtain ⟨a3, h3, _, t3⟩ := DataW.trod_string Try.underlying9 g3
    obtain ⟨y4, g4, k4⟩ := hf 4 _ rfl
    have g4 : DataW.trod enc Try.prog W 0 (fun _ => true) true n 3 ((([z0, z1, z2, z3, z4, z5, z6, z7, z8, z9, z10, z11, z12, z13, z14, z15, z16, z17, z18, z19, z20, z21, z22] : List Value).drop 4).take (Try.prog.cellsOf 3)) = some y4 := g4
    have k4 : ∀ k ∈ y4.1.weights Try.prog 3, k ≤ reachBytes := k4
    rw [c_int] at g4
    obtain ⟨a4, h4, _⟩ := DataW.trod_int Try.underlying3 g4
    obtain ⟨y5, g5, k5⟩ := hf 5 _ rfl
    have g5 : DataW.trod enc Try.prog W 0 (fun _ => true) true n 32 ((([z0, z1, z2, z3, z4, z5, z6, z7, z8, z9, z10, z11, z12, z13, z14, z15, z16, z17, z18, z19, z20, z21, z22] : List Value).drop 5).take (Try.prog.cellsOf 32)) = some y5 := g5
    have k5 : ∀ k ∈ y5.1.weights Try.prog 32, k ≤ reachBytes := k5
    rw [c_batch] at g5
    obtain ⟨b0, b1, b2, bv, bl, h5, br, bs, bq⟩ := op_batch g5 k5
    obtain ⟨y6, g6, k6⟩ := hf 6 _ rfl
    have g6 : DataW.trod enc Try.prog W 0 (fun _ => true) true n 2 ((([z0, z1, z2, z3, z4, z5, z6, z7, z8, z9, z10, z11, z12, z13, z14, z15, z16, z17, z18, z19, z20, z21, z22] : List Value).drop 9).take (Try.prog.cellsOf 2)) = some y6 := g6
    have k6 : ∀ k ∈ y6.1.weights Try.prog 2, k ≤ reachBytes := k6
    rw [c_i64] at g6
    obtain ⟨a6, h6, _⟩ := DataW.trod_int Try.underlying2 g6
    obtain ⟨y7, g7, k7⟩ := hf 7 _ rfl
    have g7 : DataW.trod enc Try.prog W 0 (fun _ => true) true n 3 ((([z0, z1, z2, z3, z4, z5, z6, z7, z8, z9, z10, z11, z12, z13, z14, z15, z16, z17, z18, z19, z20, z21, z22] : List Value).drop 10).take (Try.prog.cellsOf 3)) = some y7 := g7
    have k7 : ∀ k ∈ y7.1.weights Try.prog 3, k ≤ reachBytes := k7
    rw [c_int] at g7
    obtain ⟨a7, h7, _⟩ := DataW.trod_int Try.underlying3 g7
    obtain ⟨y8, g8, k8⟩ := hf 8 _ rfl
    have g8 : DataW.trod enc Try.prog W 0 (fun _ => true) true n 3 ((([z0, z1, z2, z3, z4, z5, z6, z7, z8, z9, z10, z11, z12, z13, z14, z15, z16, z17, z18, z19, z20, z21, z22] : List Value).drop 11).take (Try.prog.cellsOf 3)) = some y8 := g8
    have k8 : ∀ k ∈ y8.1.weights Try.prog 3, k ≤ reachBytes := k8
    rw [c_int] at g8
    obtain ⟨a8, h8, _⟩ := DataW.trod_int Try.underlying3 g8
    obtain ⟨y9, g9, k9⟩ := hf 9 _ rfl
    have g9 : DataW.trod enc Try.prog W 0 (fun _ => true) true n 38 ((([z0, z1, z2, z3, z4, z5, z6, z7, z8, z9, z10, z11, z12, z13, z14, z15, z16, z17, z18, z19, z20, z21, z22] : List Value).drop 12).take (Try.prog.cellsOf 38)) = some y9 := g9
    have k9 : ∀ k ∈ y9.1.weights Try.prog 38, k ≤ reachBytes := k9
    rw [c_cmd] at g9
    obtain ⟨m0, m1, m2, m3, mv, ml, m5, m6, m7, m8, m9, m10, h9, mr, mq⟩ := op_cmd g9 k9
    simp at h0
    simp at h1
    simp at h2
    simp at h3
    simp at h4
    simp at h5
    simp at h6
    simp at h7
    simp at h8
    simp at h9
    subst h0
    subst h1
    subst h2
    subst h3
    subst h4
    obtain ⟨rfl, rfl, rfl, rfl⟩ := h5
    subst h6
    subst h7
    subst h8
    obtain ⟨rfl, rfl, rfl, rfl, rfl, rfl, rfl, rfl, rfl, rfl, rfl⟩ := h9
    exact ⟨⟨a0, a1, a2, a3, a4, b0, b1, b2, bv, a6, a7, a8, m0, m1, m2, m3, mv, m5, m6, m7, m8, m9, m10, bl, ml⟩, rfl, ⟨br, fun y hy => (bs y hy).1, mr⟩, ⟨bq, fun y hy => (bs y hy).2, mq⟩, t3⟩
theorem op_wt {fuel : Nat} {cs : List Value} {x : DataW H × List MemPlace} (h : DataW.trod enc Try.prog W 0 (fun _ => true) true fuel 42 cs = some x) (hwt : ∀ k ∈ x.1.weights Try.prog 42, k ≤ reachBytes) :
    ∃ x : WT, cs = wtE x ∧ RqRd W.heap x.rq ∧ RqSz x.rq ∧ x.rq.topic.size ≤ maxLen := by
  obtain ⟨n, hl, hf⟩ := st_open Try.underlying42 h hwt
  rw [c_wt] at hl
  match cs, hl with
  | [z0, z1, z2, z3, z4, z5, z6, z7, z8, z9, z10, z11, z12, z13, z14, z15, z16, z17, z18, z19, z20, z21, z22, z23, z24, z25], _ =>
    obtain ⟨y0, g0, k0⟩ := hf 0 _ rfl
    have g0 : DataW.trod enc Try.prog W 0 (fun _ => true) true n 40 ((([z0, z1, z2, z3, z4, z5, z6, z7, z8, z9, z10, z11, z12, z13, z14, z15, z16, z17, z18, z19, z20, z21, z22, z23, z24, z25] : List Value).drop 0).take (Try.prog.cellsOf 40)) = some y0 := g0
    have k0 : ∀ k ∈ y0.1.weights Try.prog 40, k ≤ reachBytes := k0
    rw [c_rq] at g0
    obtain ⟨rq, h0, rr, rs, rt⟩ := op_rq g0 k0
    obtain ⟨y1, g1, k1⟩ := hf 1 _ rfl
    have g1 : DataW.trod enc Try.prog W 0 (fun _ => true) true n 2 ((([z0, z1, z2, z3, z4, z5, z6, z7, z8, z9, z10, z11, z12, z13, z14, z15, z16, z17, z18, z19, z20, z21, z22, z23, z24, z25] : List Value).drop 23).take (Try.prog.cellsOf 2)) = some y1 := g1
    have k1 : ∀ k ∈ y1.1.weights Try.prog 2, k ≤ reachBytes := k1
    rw [c_i64] at g1
    obtain ⟨a1, h1, _⟩ := DataW.trod_int Try.underlying2 g1
    obtain ⟨y2, g2, k2⟩ := hf 2 _ rfl
    have g2 : DataW.trod enc Try.prog W 0 (fun _ => true) true n 3 ((([z0, z1, z2, z3, z4, z5, z6, z7, z8, z9, z10, z11, z12, z13, z14, z15, z16, z17, z18, z19, z20, z21, z22, z23, z24, z25] : List Value).drop 24).take (Try.prog.cellsOf 3)) = some y2 := g2
    have k2 : ∀ k ∈ y2.1.weights Try.prog 3, k ≤ reachBytes := k2
    rw [c_int] at g2
    obtain ⟨a2, h2, _⟩ := DataW.trod_int Try.underlying3 g2
    obtain ⟨y3, g3, k3⟩ := hf 3 _ rfl
    have g3 : DataW.trod enc Try.prog W 0 (fun _ => true) true n 3 ((([z0, z1, z2, z3, z4, z5, z6, z7, z8, z9, z10, z11, z12, z13, z14, z15, z16, z17, z18, z19, z20, z21, z22, z23, z24, z25] : List Value).drop 25).take (Try.prog.cellsOf 3)) = some y3 := g3
    have k3 : ∀ k ∈ y3.1.weights Try.prog 3, k ≤ reachBytes := k3
    rw [c_int] at g3
    obtain ⟨a3, h3, _⟩ := DataW.trod_int Try.underlying3 g3
    simp [rqE] at h0
    simp at h1
    simp at h2
    simp at h3
    obtain ⟨rfl, rfl, rfl, rfl, rfl, rfl, rfl, rfl, rfl, rfl, rfl, rfl, rfl, rfl, rfl, rfl, rfl, rfl, rfl, rfl, rfl, rfl, rfl⟩ := h0
    subst h1
    subst h2
    subst h3
    exact ⟨⟨rq, a1, a2, a3⟩, rfl, rr, rs, rt⟩
theorem op_sq {fuel : Nat} {cs : List Value} {x : DataW H × List MemPlace} (h : DataW.trod enc Try.prog W 0 (fun _ => true) true fuel 65 cs = some x) (hwt : ∀ k ∈ x.1.weights Try.prog 65, k ≤ reachBytes) :
    ∃ s : SQ, cs = sqE s ∧ s.topic.size ≤ maxLen := by
  obtain ⟨n, hl, hf⟩ := st_open Try.underlying65 h hwt
  rw [c_sq] at hl
  match cs, hl with
  | [z0, z1, z2], _ =>
    obtain ⟨y0, g0, k0⟩ := hf 0 _ rfl
    have g0 : DataW.trod enc Try.prog W 0 (fun _ => true) true n 36 ((([z0, z1, z2] : List Value).drop 0).take (Try.prog.cellsOf 36)) = some y0 := g0
    have k0 : ∀ k ∈ y0.1.weights Try.prog 36, k ≤ reachBytes := k0
    rw [c_pl] at g0
    obtain ⟨p0, p1, h0, pt⟩ := op_pl g0 k0
    obtain ⟨y1, g1, k1⟩ := hf 1 _ rfl
    have g1 : DataW.trod enc Try.prog W 0 (fun _ => true) true n 2 ((([z0, z1, z2] : List Value).drop 2).take (Try.prog.cellsOf 2)) = some y1 := g1
    have k1 : ∀ k ∈ y1.1.weights Try.prog 2, k ≤ reachBytes := k1
    rw [c_i64] at g1
    obtain ⟨a1, h1, _⟩ := DataW.trod_int Try.underlying2 g1
    simp at h0
    simp at h1
    obtain ⟨rfl, rfl⟩ := h0
    subst h1
    exact ⟨⟨p0, p1, a1⟩, rfl, pt⟩
theorem op_cl {fuel : Nat} {cs : List Value} {x : DataW H × List MemPlace} (h : DataW.trod enc Try.prog W 0 (fun _ => true) true fuel 25 cs = some x) (hwt : ∀ k ∈ x.1.weights Try.prog 25, k ≤ reachBytes) :
    ∃ c : CL, cs = clE c ∧ ClRd W.heap c ∧ (∀ x ∈ c.ws, RqSz x.rq ∧ x.rq.topic.size ≤ maxLen) ∧ ∀ s ∈ c.ss, s.topic.size ≤ maxLen := by
  obtain ⟨n, hl, hf⟩ := st_open Try.underlying25 h hwt
  rw [c_cl] at hl
  match cs, hl with
  | [z0, z1, z2, z3, z4, z5, z6, z7, z8, z9], _ =>
    obtain ⟨y0, g0, k0⟩ := hf 0 _ rfl
    have g0 : DataW.trod enc Try.prog W 0 (fun _ => true) true n 3 ((([z0, z1, z2, z3, z4, z5, z6, z7, z8, z9] : List Value).drop 0).take (Try.prog.cellsOf 3)) = some y0 := g0
    have k0 : ∀ k ∈ y0.1.weights Try.prog 3, k ≤ reachBytes := k0
    rw [c_int] at g0
    obtain ⟨a0, h0, _⟩ := DataW.trod_int Try.underlying3 g0
    obtain ⟨y1, g1, k1⟩ := hf 1 _ rfl
    have g1 : DataW.trod enc Try.prog W 0 (fun _ => true) true n 3 ((([z0, z1, z2, z3, z4, z5, z6, z7, z8, z9] : List Value).drop 1).take (Try.prog.cellsOf 3)) = some y1 := g1
    have k1 : ∀ k ∈ y1.1.weights Try.prog 3, k ≤ reachBytes := k1
    rw [c_int] at g1
    obtain ⟨a1, h1, _⟩ := DataW.trod_int Try.underlying3 g1
    obtain ⟨y2, g2, k2⟩ := hf 2 _ rfl
    have g2 : DataW.trod enc Try.prog W 0 (fun _ => true) true n 3 ((([z0, z1, z2, z3, z4, z5, z6, z7, z8, z9] : List Value).drop 2).take (Try.prog.cellsOf 3)) = some y2 := g2
    have k2 : ∀ k ∈ y2.1.weights Try.prog 3, k ≤ reachBytes := k2
    rw [c_int] at g2
    obtain ⟨a2, h2, _⟩ := DataW.trod_int Try.underlying3 g2
    obtain ⟨y3, g3, k3⟩ := hf 3 _ rfl
    have g3 : DataW.trod enc Try.prog W 0 (fun _ => true) true n 2 ((([z0, z1, z2, z3, z4, z5, z6, z7, z8, z9] : List Value).drop 3).take (Try.prog.cellsOf 2)) = some y3 := g3
    have k3 : ∀ k ∈ y3.1.weights Try.prog 2, k ≤ reachBytes := k3
    rw [c_i64] at g3
    obtain ⟨a3, h3, _⟩ := DataW.trod_int Try.underlying2 g3
    obtain ⟨y4, g4, k4⟩ := hf 4 _ rfl
    have g4 : DataW.trod enc Try.prog W 0 (fun _ => true) true n 3 ((([z0, z1, z2, z3, z4, z5, z6, z7, z8, z9] : List Value).drop 4).take (Try.prog.cellsOf 3)) = some y4 := g4
    have k4 : ∀ k ∈ y4.1.weights Try.prog 3, k ≤ reachBytes := k4
    rw [c_int] at g4
    obtain ⟨a4, h4, _⟩ := DataW.trod_int Try.underlying3 g4
    obtain ⟨y5, g5, k5⟩ := hf 5 _ rfl
    have g5 : DataW.trod enc Try.prog W 0 (fun _ => true) true n 22 ((([z0, z1, z2, z3, z4, z5, z6, z7, z8, z9] : List Value).drop 5).take (Try.prog.cellsOf 22)) = some y5 := g5
    have k5 : ∀ k ∈ y5.1.weights Try.prog 22, k ≤ reachBytes := k5
    rw [c_wts] at g5
    obtain ⟨wv, ws, h5, wr, ww, _⟩ := rd_openD (enc' := wtE) (wf := fun (x : WT) => RqRd W.heap x.rq ∧ RqSz x.rq ∧ x.rq.topic.size ≤ maxLen) Try.underlying22 c_wt (by decide) (fun _ => rfl) (fun n cs y hy hk => op_wt hy hk) g5 k5
    obtain ⟨y6, g6, k6⟩ := hf 6 _ rfl
    have g6 : DataW.trod enc Try.prog W 0 (fun _ => true) true n 2 ((([z0, z1, z2, z3, z4, z5, z6, z7, z8, z9] : List Value).drop 6).take (Try.prog.cellsOf 2)) = some y6 := g6
    have k6 : ∀ k ∈ y6.1.weights Try.prog 2, k ≤ reachBytes := k6
    rw [c_i64] at g6
    obtain ⟨a6, h6, _⟩ := DataW.trod_int Try.underlying2 g6
    obtain ⟨y7, g7, k7⟩ := hf 7 _ rfl
    have g7 : DataW.trod enc Try.prog W 0 (fun _ => true) true n 3 ((([z0, z1, z2, z3, z4, z5, z6, z7, z8, z9] : List Value).drop 7).take (Try.prog.cellsOf 3)) = some y7 := g7
    have k7 : ∀ k ∈ y7.1.weights Try.prog 3, k ≤ reachBytes := k7
    rw [c_int] at g7
    obtain ⟨a7, h7, _⟩ := DataW.trod_int Try.underlying3 g7
    obtain ⟨y8, g8, k8⟩ := hf 8 _ rfl
    have g8 : DataW.trod enc Try.prog W 0 (fun _ => true) true n 4 ((([z0, z1, z2, z3, z4, z5, z6, z7, z8, z9] : List Value).drop 8).take (Try.prog.cellsOf 4)) = some y8 := g8
    have k8 : ∀ k ∈ y8.1.weights Try.prog 4, k ≤ reachBytes := k8
    rw [c_bool] at g8
    obtain ⟨a8, h8, _⟩ := DataW.trod_bool Try.underlying4 g8
    obtain ⟨y9, g9, k9⟩ := hf 9 _ rfl
    have g9 : DataW.trod enc Try.prog W 0 (fun _ => true) true n 23 ((([z0, z1, z2, z3, z4, z5, z6, z7, z8, z9] : List Value).drop 9).take (Try.prog.cellsOf 23)) = some y9 := g9
    have k9 : ∀ k ∈ y9.1.weights Try.prog 23, k ≤ reachBytes := k9
    rw [c_sqs] at g9
    obtain ⟨sv, ss, h9, sr, st, _⟩ := rd_openD (enc' := sqE) (wf := fun (s : SQ) => s.topic.size ≤ maxLen) Try.underlying23 c_sq (by decide) (fun _ => rfl) (fun n cs y hy hk => op_sq hy hk) g9 k9
    simp at h0
    simp at h1
    simp at h2
    simp at h3
    simp at h4
    simp at h5
    simp at h6
    simp at h7
    simp at h8
    simp at h9
    subst h0
    subst h1
    subst h2
    subst h3
    subst h4
    subst h5
    subst h6
    subst h7
    subst h8
    subst h9
    exact ⟨⟨a0, a1, a2, a3, a4, wv, a6, a7, a8, sv, ws, ss⟩, rfl, ⟨wr, fun x hx => (ww x hx).1, sr⟩, fun x hx => (ww x hx).2, st⟩
theorem op_ans {fuel : Nat} {cs : List Value} {x : DataW H × List MemPlace} (h : DataW.trod enc Try.prog W 0 (fun _ => true) true fuel 54 cs = some x) (hwt : ∀ k ∈ x.1.weights Try.prog 54, k ≤ reachBytes) :
    ∃ (a b c d e : Int) (v : OV), cs = [.int .i64 a, .int .i64 b, .int .i64 c, .int .i64 d, .int .u8 e, v.1] := by
  obtain ⟨n, hl, hf⟩ := st_open Try.underlying54 h hwt
  rw [c_ans] at hl
  match cs, hl with
  | [z0, z1, z2, z3, z4, z5], _ =>
    obtain ⟨y0, g0, k0⟩ := hf 0 _ rfl
    have g0 : DataW.trod enc Try.prog W 0 (fun _ => true) true n 50 ((([z0, z1, z2, z3, z4, z5] : List Value).drop 0).take (Try.prog.cellsOf 50)) = some y0 := g0
    have k0 : ∀ k ∈ y0.1.weights Try.prog 50, k ≤ reachBytes := k0
    rw [c_er] at g0
    obtain ⟨a0, h0, _⟩ := DataW.trod_int Try.underlying50 g0
    obtain ⟨y1, g1, k1⟩ := hf 1 _ rfl
    have g1 : DataW.trod enc Try.prog W 0 (fun _ => true) true n 2 ((([z0, z1, z2, z3, z4, z5] : List Value).drop 1).take (Try.prog.cellsOf 2)) = some y1 := g1
    have k1 : ∀ k ∈ y1.1.weights Try.prog 2, k ≤ reachBytes := k1
    rw [c_i64] at g1
    obtain ⟨a1, h1, _⟩ := DataW.trod_int Try.underlying2 g1
    obtain ⟨y2, g2, k2⟩ := hf 2 _ rfl
    have g2 : DataW.trod enc Try.prog W 0 (fun _ => true) true n 3 ((([z0, z1, z2, z3, z4, z5] : List Value).drop 2).take (Try.prog.cellsOf 3)) = some y2 := g2
    have k2 : ∀ k ∈ y2.1.weights Try.prog 3, k ≤ reachBytes := k2
    rw [c_int] at g2
    obtain ⟨a2, h2, _⟩ := DataW.trod_int Try.underlying3 g2
    obtain ⟨y3, g3, k3⟩ := hf 3 _ rfl
    have g3 : DataW.trod enc Try.prog W 0 (fun _ => true) true n 3 ((([z0, z1, z2, z3, z4, z5] : List Value).drop 3).take (Try.prog.cellsOf 3)) = some y3 := g3
    have k3 : ∀ k ∈ y3.1.weights Try.prog 3, k ≤ reachBytes := k3
    rw [c_int] at g3
    obtain ⟨a3, h3, _⟩ := DataW.trod_int Try.underlying3 g3
    obtain ⟨y4, g4, k4⟩ := hf 4 _ rfl
    have g4 : DataW.trod enc Try.prog W 0 (fun _ => true) true n 51 ((([z0, z1, z2, z3, z4, z5] : List Value).drop 4).take (Try.prog.cellsOf 51)) = some y4 := g4
    have k4 : ∀ k ∈ y4.1.weights Try.prog 51, k ≤ reachBytes := k4
    rw [c_ph] at g4
    obtain ⟨a4, h4, _⟩ := DataW.trod_int Try.underlying51 g4
    obtain ⟨y5, g5, k5⟩ := hf 5 _ rfl
    have g5 : DataW.trod enc Try.prog W 0 (fun _ => true) true n 52 ((([z0, z1, z2, z3, z4, z5] : List Value).drop 5).take (Try.prog.cellsOf 52)) = some y5 := g5
    have k5 : ∀ k ∈ y5.1.weights Try.prog 52, k ≤ reachBytes := k5
    rw [c_pls] at g5
    obtain ⟨a5, h5⟩ := op_one Try.underlying52 g5
    simp at h0
    simp at h1
    simp at h2
    simp at h3
    simp at h4
    simp at h5
    subst h0
    subst h1
    subst h2
    subst h3
    subst h4
    subst h5
    exact ⟨_, _, _, _, _, _, rfl⟩
theorem op_rp {fuel : Nat} {cs : List Value} {x : DataW H × List MemPlace} (h : DataW.trod enc Try.prog W 0 (fun _ => true) true fuel 56 cs = some x) (hwt : ∀ k ∈ x.1.weights Try.prog 56, k ≤ reachBytes) :
    ∃ a : RP, cs = rpE a := by
  obtain ⟨n, hl, hf⟩ := st_open Try.underlying56 h hwt
  rw [c_rp] at hl
  match cs, hl with
  | [z0, z1, z2, z3, z4, z5, z6, z7, z8, z9, z10, z11, z12, z13, z14, z15], _ =>
    obtain ⟨y0, g0, k0⟩ := hf 0 _ rfl
    have g0 : DataW.trod enc Try.prog W 0 (fun _ => true) true n 29 ((([z0, z1, z2, z3, z4, z5, z6, z7, z8, z9, z10, z11, z12, z13, z14, z15] : List Value).drop 0).take (Try.prog.cellsOf 29)) = some y0 := g0
    have k0 : ∀ k ∈ y0.1.weights Try.prog 29, k ≤ reachBytes := k0
    rw [c_rk] at g0
    obtain ⟨a0, h0, _⟩ := DataW.trod_int Try.underlying29 g0
    obtain ⟨y1, g1, k1⟩ := hf 1 _ rfl
    have g1 : DataW.trod enc Try.prog W 0 (fun _ => true) true n 3 ((([z0, z1, z2, z3, z4, z5, z6, z7, z8, z9, z10, z11, z12, z13, z14, z15] : List Value).drop 1).take (Try.prog.cellsOf 3)) = some y1 := g1
    have k1 : ∀ k ∈ y1.1.weights Try.prog 3, k ≤ reachBytes := k1
    rw [c_int] at g1
    obtain ⟨a1, h1, _⟩ := DataW.trod_int Try.underlying3 g1
    obtain ⟨y2, g2, k2⟩ := hf 2 _ rfl
    have g2 : DataW.trod enc Try.prog W 0 (fun _ => true) true n 3 ((([z0, z1, z2, z3, z4, z5, z6, z7, z8, z9, z10, z11, z12, z13, z14, z15] : List Value).drop 2).take (Try.prog.cellsOf 3)) = some y2 := g2
    have k2 : ∀ k ∈ y2.1.weights Try.prog 3, k ≤ reachBytes := k2
    rw [c_int] at g2
    obtain ⟨a2, h2, _⟩ := DataW.trod_int Try.underlying3 g2
    obtain ⟨y3, g3, k3⟩ := hf 3 _ rfl
    have g3 : DataW.trod enc Try.prog W 0 (fun _ => true) true n 50 ((([z0, z1, z2, z3, z4, z5, z6, z7, z8, z9, z10, z11, z12, z13, z14, z15] : List Value).drop 3).take (Try.prog.cellsOf 50)) = some y3 := g3
    have k3 : ∀ k ∈ y3.1.weights Try.prog 50, k ≤ reachBytes := k3
    rw [c_er] at g3
    obtain ⟨a3, h3, _⟩ := DataW.trod_int Try.underlying50 g3
    obtain ⟨y4, g4, k4⟩ := hf 4 _ rfl
    have g4 : DataW.trod enc Try.prog W 0 (fun _ => true) true n 3 ((([z0, z1, z2, z3, z4, z5, z6, z7, z8, z9, z10, z11, z12, z13, z14, z15] : List Value).drop 4).take (Try.prog.cellsOf 3)) = some y4 := g4
    have k4 : ∀ k ∈ y4.1.weights Try.prog 3, k ≤ reachBytes := k4
    rw [c_int] at g4
    obtain ⟨a4, h4, _⟩ := DataW.trod_int Try.underlying3 g4
    obtain ⟨y5, g5, k5⟩ := hf 5 _ rfl
    have g5 : DataW.trod enc Try.prog W 0 (fun _ => true) true n 2 ((([z0, z1, z2, z3, z4, z5, z6, z7, z8, z9, z10, z11, z12, z13, z14, z15] : List Value).drop 5).take (Try.prog.cellsOf 2)) = some y5 := g5
    have k5 : ∀ k ∈ y5.1.weights Try.prog 2, k ≤ reachBytes := k5
    rw [c_i64] at g5
    obtain ⟨a5, h5, _⟩ := DataW.trod_int Try.underlying2 g5
    obtain ⟨y6, g6, k6⟩ := hf 6 _ rfl
    have g6 : DataW.trod enc Try.prog W 0 (fun _ => true) true n 2 ((([z0, z1, z2, z3, z4, z5, z6, z7, z8, z9, z10, z11, z12, z13, z14, z15] : List Value).drop 6).take (Try.prog.cellsOf 2)) = some y6 := g6
    have k6 : ∀ k ∈ y6.1.weights Try.prog 2, k ≤ reachBytes := k6
    rw [c_i64] at g6
    obtain ⟨a6, h6, _⟩ := DataW.trod_int Try.underlying2 g6
    obtain ⟨y7, g7, k7⟩ := hf 7 _ rfl
    have g7 : DataW.trod enc Try.prog W 0 (fun _ => true) true n 2 ((([z0, z1, z2, z3, z4, z5, z6, z7, z8, z9, z10, z11, z12, z13, z14, z15] : List Value).drop 7).take (Try.prog.cellsOf 2)) = some y7 := g7
    have k7 : ∀ k ∈ y7.1.weights Try.prog 2, k ≤ reachBytes := k7
    rw [c_i64] at g7
    obtain ⟨a7, h7, _⟩ := DataW.trod_int Try.underlying2 g7
    obtain ⟨y8, g8, k8⟩ := hf 8 _ rfl
    have g8 : DataW.trod enc Try.prog W 0 (fun _ => true) true n 4 ((([z0, z1, z2, z3, z4, z5, z6, z7, z8, z9, z10, z11, z12, z13, z14, z15] : List Value).drop 8).take (Try.prog.cellsOf 4)) = some y8 := g8
    have k8 : ∀ k ∈ y8.1.weights Try.prog 4, k ≤ reachBytes := k8
    rw [c_bool] at g8
    obtain ⟨a8, h8, _⟩ := DataW.trod_bool Try.underlying4 g8
    obtain ⟨y9, g9, k9⟩ := hf 9 _ rfl
    have g9 : DataW.trod enc Try.prog W 0 (fun _ => true) true n 30 ((([z0, z1, z2, z3, z4, z5, z6, z7, z8, z9, z10, z11, z12, z13, z14, z15] : List Value).drop 9).take (Try.prog.cellsOf 30)) = some y9 := g9
    have k9 : ∀ k ∈ y9.1.weights Try.prog 30, k ≤ reachBytes := k9
    rw [c_bys] at g9
    obtain ⟨a9, h9⟩ := op_one Try.underlying30 g9
    obtain ⟨y10, g10, k10⟩ := hf 10 _ rfl
    have g10 : DataW.trod enc Try.prog W 0 (fun _ => true) true n 54 ((([z0, z1, z2, z3, z4, z5, z6, z7, z8, z9, z10, z11, z12, z13, z14, z15] : List Value).drop 10).take (Try.prog.cellsOf 54)) = some y10 := g10
    have k10 : ∀ k ∈ y10.1.weights Try.prog 54, k ≤ reachBytes := k10
    rw [c_ans] at g10
    obtain ⟨m0, m1, m2, m3, m4, m5, h10⟩ := op_ans g10 k10
    simp at h0
    simp at h1
    simp at h2
    simp at h3
    simp at h4
    simp at h5
    simp at h6
    simp at h7
    simp at h8
    simp at h9
    simp at h10
    subst h0
    subst h1
    subst h2
    subst h3
    subst h4
    subst h5
    subst h6
    subst h7
    subst h8
    subst h9
    obtain ⟨rfl, rfl, rfl, rfl, rfl, rfl⟩ := h10
    exact ⟨⟨a0, a1, a2, a3, a4, a5, a6, a7, a8, a9, m0, m1, m2, m3, m4, m5⟩, rfl⟩
theorem open_cl {base : Nat} {v : Value} {d : DataW H} {ps : List MemPlace} (hval : Value.okWide Try.prog W .any base 25 v) (h : DataW.Trod enc Try.prog W 0 (fun _ => true) true 25 v d ps) (hwt : ∀ k ∈ d.weights Try.prog 25, k ≤ reachBytes) : ∃ c : CL, v = .agg (clE c).toArray ∧ ClRd W.heap c ∧ (∀ x ∈ c.ws, RqSz x.rq ∧ x.rq.topic.size ≤ maxLen) ∧ ∀ s ∈ c.ss, s.topic.size ≤ maxLen := by
  obtain ⟨cs, rfl, _⟩ := okWide_struct Try.underlying25 hval
  obtain ⟨fuel, hf⟩ := h
  obtain ⟨c, e, r⟩ := op_cl hf hwt
  have e' : cs.toList = clE c := e
  exact ⟨c, by rw [← e'], r⟩
theorem open_rp {base : Nat} {v : Value} {d : DataW H} {ps : List MemPlace} (hval : Value.okWide Try.prog W .any base 56 v) (h : DataW.Trod enc Try.prog W 0 (fun _ => true) true 56 v d ps) (hwt : ∀ k ∈ d.weights Try.prog 56, k ≤ reachBytes) : ∃ c : RP, v = .agg (rpE c).toArray := by
  obtain ⟨cs, rfl, _⟩ := okWide_struct Try.underlying56 hval
  obtain ⟨fuel, hf⟩ := h
  obtain ⟨c, e⟩ := op_rp hf hwt
  have e' : cs.toList = rpE c := e
  exact ⟨c, by rw [← e']⟩
end
end Go.Proofs.Ytchfaeaagpemlaa

set_option maxRecDepth 100000
namespace Go.Proofs.Ytchfaeaagpemlaa
open Go Go.Eng
theorem takeA31 (c : CL) (x : WT) (a : RP) (w : World) (R : R1 c) (hw : c.ws = [x]) (hm : matchB a x = true) (he : a.err = 220) (hld : 1 ≤ a.leader ∧ a.leader ≤ c.brokers) (hc : ClRd w.heap c) (hs : RqSz x.rq) :
    Rets Try.prog 8 #[.agg (clE c).toArray, .agg (rpE a).toArray] w fun u w' => ∃ c' x', u = .tuple #[.agg (clE c').toArray, .slice none 0 0, .slice none 0 0] ∧ ClOwn w'.heap c' ∧ Fr No w w' ∧ c'.nf = ({ c with broker := a.leader, ws := [{ x with due := c.now + 1, broker := a.leader }] } : CL).nf ∧ c'.ws = [x'] := by
  have hw0 := c.wv.2
  have hs0 := c.sv.2
  have ha0 := a.rrv.2
  have ha1 := a.mpl.2
  refine rets_of Try.func8 rfl Try.ntmps8 rfl rfl (by kernel_rfl) ?_
  ((apply vC_seq; apply vC_region)); (((iterate 2 (((apply vL_val); (case h => ((apply opw_boxn); exact rfl))))); ((apply vL_val); (case h => (apply opw_alloc))); (iterate 2 (((apply vL_val); (case h => ((apply opv_E); exact rfl))))); apply vL_nil)); with_reducible apply seqP_normal
  ((apply vC_seq; apply vC_region))
  have e3 : (w.alloc (.cells (clE c).toArray 25)).heap.size = w.heap.size + 1 := by simp
  have e4 : ((w.alloc (.cells (clE c).toArray 25)).alloc (.cells (rpE a).toArray 56)).heap.size = w.heap.size + 2 := by simp
  refine vL_gen (fun w' => Fr No w w' ∧ Blk w'.heap w.heap.size (clE c) 25 ∧ Blk w'.heap (w.alloc (.cells (clE c).toArray 25)).heap.size (rpE a) 56 ∧ Blk w'.heap ((w.alloc (.cells (clE c).toArray 25)).alloc (.cells (rpE a).toArray 56)).heap.size clZ 25) ⟨by (repeat (first | exact Fr.refl _ _ | assumption | with_reducible apply Fr.allocSet | with_reducible apply Fr.alloc | with_reducible apply Fr.drewN | with_reducible apply Fr.drew | ((with_reducible apply Fr.set); rotate_left; (right; ((try simp only [alloc_size]); omega))) | (refine Fr.trans ?_ (by assumption)))), inferInstance, inferInstance, inferInstance⟩ ?_
  rintro w1 ⟨hf1, h2, h3, h4⟩
  rw [e3] at h3
  rw [e4] at h4
  rw [e3, e4]
  obtain ⟨b2, eb2⟩ : ∃ b2, b2 = w.heap.size := ⟨_, rfl⟩
  obtain ⟨b3, eb3⟩ : ∃ b3, b3 = w.heap.size + 1 := ⟨_, rfl⟩
  obtain ⟨b4, eb4⟩ : ∃ b4, b4 = w.heap.size + 2 := ⟨_, rfl⟩
  rw [← eb4] at h4 ⊢
  rw [← eb3] at h3 ⊢
  rw [← eb2] at h2 ⊢
  have hsz1 := hf1.size
  have hl4 := h4.lt
  (((apply vL_val); (case h => ((apply opv_fieldAddr); exact rfl))); ((apply vL_val); (case h => ((apply opv_loadb1); exact rfl; exact rfl; (first | assumption | infer_instance); exact rfl))); ((apply vL_val); (case h => ((apply opv_makeFunc); exact rfl))))
  refine vL_callF rfl (indexFunc_wt _ _ (matchB a) c.ws _ 20 [.pointer (some ⟨b3, 0, none⟩)] (hc.1.frN hf1) rfl (fun y w1 hy hf => takec31 y a b3 w1 (h3.frN hf))) rfl ?_
  rintro u5 w2 ⟨hf2, hres⟩
  have h22 := h2.frN hf2
  have h32 := h3.frN hf2
  have h42 := h4.frN hf2
  have hf12 := hf1.trans hf2
  rcases hres with ⟨rfl, hno⟩ | ⟨k, rfl, hk, ⟨y, hy, hp⟩, _⟩
  · have := hno x (by rw [hw]; exact List.mem_singleton_self _)
    rw [hm] at this; cases this
  have hk0 : k = 0 := by rw [hw] at hk; have : k < 1 := hk; omega
  subst hk0
  clear hy hp y
  (((apply vL_val); (case h => ((apply opv_E); exact rfl))); apply vL_nil; apply seqP_normal; apply vC_seq; apply vC_region; ((apply vL_val); (case h => ((apply opv_loadbC); exact rfl; exact rfl; (first | assumption | infer_instance); (first | exact (rfl : _ = [_]) | exact (rfl : _ = [_, _]) | exact (rfl : _ = [_, _, _]) | exact (rfl : _ = [_, _, _, _]) | exact (rfl : _ = [_, _, _, _, _]) | exact (rfl : _ = [_, _, _, _, _, _]) | exact (rfl : _ = [_, _, _, _, _, _, _]) | exact (rfl : _ = [_, _, _, _, _, _, _, _]) | exact (rfl : _ = [_, _, _, _, _, _, _, _, _]) | exact (rfl : _ = [_, _, _, _, _, _, _, _, _, _]) | exact (rfl : _ = [_, _, _, _, _, _, _, _, _, _, _]) | exact (rfl : _ = [_, _, _, _, _, _, _, _, _, _, _, _])); exact rfl))))
  refine vL_callF rfl (clone31 c w2 (hc.frN hf12) ⟨by rw [hw]; exact (show 1 ≤ 1000 by decide), by have := R.s1; omega, fun y hy => by rw [hw] at hy; rw [List.mem_singleton.1 hy]; exact hs⟩) rfl ?_
  rintro _ w3 ⟨c1, rfl, hnf, hc3, hfw3, hfs3, hf3⟩
  have hw1 := c1.wv.2
  have hs1 := c1.sv.2
  have h23 := h22.frN hf3
  have h33 := h32.frN hf3
  have h43 := h42.frN hf3
  have hf13 := hf12.trans hf3
  have hsz2 := hf12.size
  ((((apply vL_skip); (case h => ((apply ops_storen); (first | exact norm_eq rfl | ((conv => lhs; whnf) <;> exact rfl)); (first | exact norm_eq rfl | ((conv => lhs; whnf) <;> exact rfl)); exact rfl; (first | exact (fun u hu => EncOk.one _ u hu) | (intro u hu; simp at hu; rcases hu with rfl | rfl <;> (first | rfl | assumption)) | (intro u hu; simp at hu; rcases hu with rfl | rfl | rfl <;> (first | rfl | assumption)) | (intro u hu; simp at hu; rcases hu with rfl | rfl | rfl | rfl <;> (first | rfl | assumption)) | exact (fun u hu => EncOk.one _ u (List.mem_of_mem_drop (List.mem_of_mem_take hu))) | (intro u hu; simp only [List.mem_cons, List.not_mem_nil, or_false] at hu; rcases hu with rfl | rfl | rfl | rfl | rfl | rfl | rfl | rfl | rfl | rfl <;> (first | rfl | assumption)) | (intro u hu; simp only [List.mem_cons, List.not_mem_nil, or_false] at hu; rcases hu with rfl | rfl | rfl | rfl | rfl | rfl | rfl | rfl | rfl | rfl | rfl | rfl | rfl | rfl | rfl | rfl | rfl | rfl | rfl | rfl | rfl | rfl | rfl <;> (first | rfl | assumption)) | (intro u hu; simp only [List.mem_cons, List.not_mem_nil, or_false] at hu; rcases hu with rfl | rfl | rfl | rfl | rfl | rfl | rfl | rfl | rfl | rfl | rfl | rfl | rfl | rfl | rfl | rfl | rfl | rfl | rfl | rfl | rfl | rfl | rfl | rfl <;> (first | rfl | assumption)) | (intro u hu; simp only [List.mem_cons, List.not_mem_nil, or_false] at hu; rcases hu with rfl | rfl | rfl | rfl | rfl | rfl | rfl | rfl | rfl | rfl | rfl | rfl | rfl | rfl | rfl | rfl | rfl | rfl | rfl | rfl | rfl | rfl | rfl | rfl | rfl | rfl <;> (first | rfl | assumption))); (first | assumption | infer_instance); (first | decide | exact of_decide_eq_true rfl | (simp; done))))); apply vL_nil)); with_reducible apply seqP_normal
  (((iterate 2 (apply vC_seq)); apply vC_region))
  refine vL_gen (fun w' => Fr No w w' ∧ Blk w'.heap b2 (clE c1) 25 ∧ Blk w'.heap b3 (rpE a) 56 ∧ Blk w'.heap b4 clZ 25 ∧ ClOwn w'.heap c1) ⟨hf13.set _ _ (.inr (by omega)), Blk.as (Blk.set h23) rfl, h33.set_ne (by omega), h43.set_ne (by omega), hc3.frBlk h23 ⟨by decide, by decide, by decide⟩ ⟨by decide, by decide⟩ ((Fr.refl (fun k => k = b2) w3).set _ _ (.inl rfl))⟩ ?_
  rintro w4 ⟨hf4, h24, h34, h44, hc4⟩
  have hfwz : ∀ b, own c1.wv.1 = some b → w.heap.size + 3 ≤ b := fun b hb => by have := hfw3 b hb; have := hf2.size; omega
  have hfsz : ∀ b, own c1.sv.1 = some b → w.heap.size + 3 ≤ b := fun b hb => by have := hfs3 b hb; have := hf2.size; omega
  clear h22 h32 h42 h23 h33 h43 hc3 hfw3 hfs3 hf3 hf13 hf12 h2 h3 h4
  have R' := R1.nf hnf R
  have hnw : c1.now = c.now := by have := congrArg CL.now hnf; exact this
  have hbk : c1.brokers = c.brokers := by have := congrArg CL.brokers hnf; exact this
  obtain ⟨x1, hx1, hx1n⟩ : ∃ x1, c1.ws = [x1] ∧ x1.nf = x.nf := by
    have h1 : c1.ws.map WT.nf = c.ws.map WT.nf := by have := congrArg CL.ws hnf; exact this
    rw [hw] at h1
    obtain ⟨y, hy, e⟩ := List.map_eq_singleton_iff.1 h1
    exact ⟨y, hy, e⟩
  have hn0 := R.now
  ((iterate 3 (((apply vL_val); (case h => ((apply opv_E); exact rfl))))); ((apply vL_wanted); exact rfl); ((apply vL_val); (case h => ((apply opv_loadbC); exact rfl; exact rfl; (first | assumption | infer_instance); (first | exact (rfl : _ = [_]) | exact (rfl : _ = [_, _]) | exact (rfl : _ = [_, _, _]) | exact (rfl : _ = [_, _, _, _]) | exact (rfl : _ = [_, _, _, _, _]) | exact (rfl : _ = [_, _, _, _, _, _]) | exact (rfl : _ = [_, _, _, _, _, _, _]) | exact (rfl : _ = [_, _, _, _, _, _, _, _]) | exact (rfl : _ = [_, _, _, _, _, _, _, _, _]) | exact (rfl : _ = [_, _, _, _, _, _, _, _, _, _]) | exact (rfl : _ = [_, _, _, _, _, _, _, _, _, _, _]) | exact (rfl : _ = [_, _, _, _, _, _, _, _, _, _, _, _])); exact rfl))); ((apply vL_wanted); exact rfl))
  refine vL_callF rfl (right31 c1 w4 hc4.rd R') rfl ?_
  rintro _ w5 ⟨rfl, hf5⟩
  have h25 := h24.frN hf5
  have h35 := h34.frN hf5
  have h45 := h44.frN hf5
  have hc5 := hc4.frN hf5
  have hfw5 := hf4.trans hf5
  have hcw5 := hc5.1
  rw [hx1] at hcw5
  have hxi : ([x1] : List WT)[((0 : Nat) : Int).toNat]? = some x1 := rfl
  have hxl : (((0 : Nat) : Int)) < (([x1] : List WT).length : Int) := Int.zero_lt_one
  clear h24 h34 h44 hc4 hf4 hf5
  haveI n23 : NeB b2 b3 := ⟨by omega⟩
  haveI n24 : NeB b2 b4 := ⟨by omega⟩
  haveI n34 : NeB b3 b4 := ⟨by omega⟩
  haveI n42 : NeB b4 b2 := ⟨by omega⟩
  haveI n32 : NeB b3 b2 := ⟨by omega⟩
  haveI n43 : NeB b4 b3 := ⟨by omega⟩
  haveI hoff : OffB c1.wv.1 b2 := ⟨Own.ne_blk hcw5 h25 (by decide)⟩
  (((apply vL_wanted); exact rfl); ((apply vL_val); (case h => ((apply opv_not); exact rfl))); ((apply vL_val); (case h => ((apply opv_E); exact rfl))); apply vL_nil; apply seqP_normal; ((apply vC_cond_false); exact rfl); apply vC_skip; apply seqP_normal; apply vC_seq; apply vC_region; ((apply vL_val); (case h => ((apply opv_fieldAddr); exact rfl))); ((apply vL_val); (case h => ((apply opv_loadb1); exact rfl; exact rfl; (first | assumption | infer_instance); exact rfl))); (iterate 2 (((apply vL_val); (case h => ((apply opv_E); exact rfl))))); (refine vL_and rfl rfl (fun _ => ?_) (fun h => by omega)); ((apply vL_val); (case h => ((apply opv_fieldAddr); exact rfl))); ((apply vL_wanted); exact rfl); ((apply vL_val); (case h => ((apply opv_loadb1); exact rfl; exact rfl; (first | assumption | infer_instance); exact rfl))); ((apply vL_wanted); exact rfl); ((apply vL_val); (case h => ((apply opv_fieldAddr); exact rfl))); ((apply vL_wanted); exact rfl); ((apply vL_val); (case h => ((apply opv_loadb1); exact rfl; exact rfl; (first | assumption | infer_instance); exact rfl))); ((apply vL_wanted); exact rfl); (iterate 3 (((apply vL_val); (case h => ((apply opv_E); exact rfl))))); apply vL_nil; apply seqP_normal; (iterate 2 (apply vC_seq)); apply vC_region; ((apply vL_val); (case h => ((apply opv_E); exact rfl))); apply vL_nil; apply seqP_normal; (refine vC_cond_dec rfl (fun _ => ?_) (fun h => by omega)); apply vC_region; ((apply vL_val); (case h => ((apply opv_fieldAddr); exact rfl))); ((apply vL_val); (case h => ((apply opv_loadb1); exact rfl; exact rfl; (first | assumption | infer_instance); exact rfl))); ((apply vL_val); (case h => ((apply opv_fieldAddr); exact rfl))); ((apply vL_skip); (case h => ((apply ops_store1); (first | exact norm_eq rfl | ((conv => lhs; whnf) <;> exact rfl)); (first | exact norm_eq rfl | ((conv => lhs; whnf) <;> exact rfl)); (first | rfl | assumption); (first | assumption | infer_instance); (first | decide | exact of_decide_eq_true rfl | (simp; done))))); apply vL_nil; apply seqP_normal; (iterate 2 (apply vC_seq)); apply vC_region; ((apply vL_val); (case h => ((apply opv_fieldAddr); exact rfl))); ((apply vL_val); (case h => ((apply opv_loadb1); exact rfl; exact rfl; (first | assumption | infer_instance); exact rfl))); ((apply vL_val); (case h => ((apply opv_E); exact rfl))); apply vL_nil; apply seqP_normal; (refine vC_cond_dec rfl (fun _ => ?_) (fun h => by omega)); apply vC_seq; apply vC_region; ((apply vL_val); (case h => ((apply opv_fieldAddr); exact rfl))); ((apply vL_val); (case h => ((apply opv_loadb1); exact rfl; exact rfl; (first | assumption | infer_instance); exact rfl))); ((apply vL_val); (case h => ((apply opv_E); exact rfl))); ((apply vL_val); (case h => ((apply opv_fieldAddr); exact rfl))); ((apply vL_val); (case h => ((apply opv_loadb1); exact rfl; exact rfl; (first | assumption | infer_instance); exact rfl))); ((apply vL_val); (case h => ((apply opv_add); exact rfl; exact rfl; (first | omega | (simp only [List.length_map]; omega))))); ((apply vL_val); (case h => ((apply opv_indexAddr); (first | exact norm_eq rfl | ((conv => lhs; whnf) <;> exact rfl)); exact rfl; (first | assumption | infer_instance); (first | omega | (simp only [List.length_map]; omega)); (first | omega | (simp only [List.length_map]; omega))))); ((apply vL_val); (case h => ((apply opv_fieldAddr); exact rfl))))
  refine vL_gen (fun w' => Fr No w w' ∧ Blk w'.heap b2 (clE { c1 with broker := a.leader }) 25 ∧ Blk w'.heap b3 (rpE a) 56 ∧ Blk w'.heap b4 clZ 25 ∧ ClOwn w'.heap c1) ⟨hfw5.set _ _ (.inr (by omega)), Blk.as (Blk.set h25) rfl, h35.set_ne (by omega), h45.set_ne (by omega), hc5.frBlk h25 ⟨by decide, by decide, by decide⟩ ⟨by decide, by decide⟩ ((Fr.refl (fun k => k = b2) w5).set _ _ (.inl rfl))⟩ ?_
  rintro w6 ⟨hf6, h26, h36, h46, hc6⟩
  clear h25 h35 h45 hc5 hfw5 hcw5 hoff
  have ho6 := hc6.1
  rw [hx1] at ho6
  have hq6 : RqOwn w6.heap x1.rq := hc6.2.1 x1 (by rw [hx1]; exact List.mem_singleton_self _)
  have hs6 := hc6.2.2
  refine vL_storeElF (enc := wtE) (xs := [x1]) (x0 := x1) (j := 23) ({ x1 with due := c1.now + 8 } : WT) rfl rfl hxi rfl rfl (by decide) ho6 ?_
  intro w7 ho7 hf7
  replace ho7 : Own w7.heap 42 26 wtE c1.wv.1 [{ x1 with due := c1.now + 8 }] := ho7
  have h27 := h26.fr hf7 (fun h => Own.ne_blk ho6 h26 (by decide) h)
  have h37 := h36.fr hf7 (fun h => Own.ne_blk ho6 h36 (by decide) h)
  have h47 := h46.fr hf7 (fun h => Own.ne_blk ho6 h46 (by decide) h)
  have hq7 := hq6.frOwn ho6 (by decide) (by decide) (by decide) hf7
  have hs7 := hs6.fr hf7 (fun b hb h => Own.ne_own hs6 ho6 (by decide) b hb h)
  have hfw7 : Fr No w w7 := hf6.trans' hf7 (fun k hk => .inr (by have := hfwz k hk; omega))
  clear h26 h36 h46 hc6 hq6 hs6 hf6 ho6 hf7
  have hxi7 : ([{ x1 with due := c1.now + 8 }] : List WT)[((0 : Nat) : Int).toNat]? = some ({ x1 with due := c1.now + 8 } : WT) := rfl
  have hxl7 : (((0 : Nat) : Int)) < (([{ x1 with due := c1.now + 8 }] : List WT).length : Int) := Int.zero_lt_one
  (apply vL_nil; apply seqP_normal; (iterate 2 (apply vC_seq)); apply vC_region; ((apply vL_val); (case h => ((apply opv_E); exact rfl))); apply vL_nil; apply seqP_normal; (refine vC_cond_dec rfl (fun _ => ?_) (fun h => by omega)); apply vC_seq; apply vC_region; ((apply vL_val); (case h => ((apply opv_fieldAddr); exact rfl))); ((apply vL_val); (case h => ((apply opv_loadb1); exact rfl; exact rfl; (first | assumption | infer_instance); exact rfl))); ((apply vL_val); (case h => ((apply opv_E); exact rfl))); ((apply vL_val); (case h => ((apply opv_fieldAddr); exact rfl))); ((apply vL_val); (case h => ((apply opv_loadb1); exact rfl; exact rfl; (first | assumption | infer_instance); exact rfl))); ((apply vL_val); (case h => ((apply opv_indexAddr); (first | exact norm_eq rfl | ((conv => lhs; whnf) <;> exact rfl)); exact rfl; (first | assumption | infer_instance); (first | omega | (simp only [List.length_map]; omega)); (first | omega | (simp only [List.length_map]; omega))))); ((apply vL_val); (case h => ((apply opv_fieldAddr); exact rfl))))
  refine vL_storeElF (enc := wtE) (xs := [{ x1 with due := c1.now + 8 }]) (x0 := { x1 with due := c1.now + 8 }) (j := 25) ({ x1 with due := c1.now + 8, broker := a.leader } : WT) rfl rfl hxi7 rfl rfl (by decide) ho7 ?_
  intro w8 ho8 hf8
  replace ho8 : Own w8.heap 42 26 wtE c1.wv.1 [{ x1 with due := c1.now + 8, broker := a.leader }] := ho8
  have h28 := h27.fr hf8 (fun h => Own.ne_blk ho7 h27 (by decide) h)
  have h38 := h37.fr hf8 (fun h => Own.ne_blk ho7 h37 (by decide) h)
  have h48 := h47.fr hf8 (fun h => Own.ne_blk ho7 h47 (by decide) h)
  have hq8 := hq7.frOwn ho7 (by decide) (by decide) (by decide) hf8
  have hs8 := hs7.fr hf8 (fun b hb h => Own.ne_own hs7 ho7 (by decide) b hb h)
  have hfw8 : Fr No w w8 := hfw7.trans' hf8 (fun k hk => .inr (by have := hfwz k hk; omega))
  clear h27 h37 h47 hq7 hs7 hfw7 ho7 hf8 hxi7 hxl7
  have hxi8 : ([{ x1 with due := c1.now + 8, broker := a.leader }] : List WT)[((0 : Nat) : Int).toNat]? = some ({ x1 with due := c1.now + 8, broker := a.leader } : WT) := rfl
  have hxl8 : (((0 : Nat) : Int)) < (([{ x1 with due := c1.now + 8, broker := a.leader }] : List WT).length : Int) := Int.zero_lt_one
  (apply vL_nil; apply seqP_normal; apply vC_region; ((apply vL_val); (case h => ((apply opv_fieldAddr); exact rfl))); ((apply vL_val); (case h => ((apply opv_loadb1); exact rfl; exact rfl; (first | assumption | infer_instance); exact rfl))); ((apply vL_val); (case h => ((apply opv_E); exact rfl))); ((apply vL_val); (case h => ((apply opv_fieldAddr); exact rfl))); ((apply vL_val); (case h => ((apply opv_loadb1); exact rfl; exact rfl; (first | assumption | infer_instance); exact rfl))); ((apply vL_val); (case h => ((apply opv_add); exact rfl; exact rfl; (first | omega | (simp only [List.length_map]; omega))))); ((apply vL_val); (case h => ((apply opv_indexAddr); (first | exact norm_eq rfl | ((conv => lhs; whnf) <;> exact rfl)); exact rfl; (first | assumption | infer_instance); (first | omega | (simp only [List.length_map]; omega)); (first | omega | (simp only [List.length_map]; omega))))); ((apply vL_val); (case h => ((apply opv_fieldAddr); exact rfl))))
  refine vL_storeElF (enc := wtE) (xs := [{ x1 with due := c1.now + 8, broker := a.leader }]) (x0 := { x1 with due := c1.now + 8, broker := a.leader }) (j := 23) ({ x1 with due := c1.now + 1, broker := a.leader } : WT) rfl rfl hxi8 rfl rfl (by decide) ho8 ?_
  intro w9 ho9 hf9
  replace ho9 : Own w9.heap 42 26 wtE c1.wv.1 [{ x1 with due := c1.now + 1, broker := a.leader }] := ho9
  have h29 := h28.fr hf9 (fun h => Own.ne_blk ho8 h28 (by decide) h)
  have h49 := h48.fr hf9 (fun h => Own.ne_blk ho8 h48 (by decide) h)
  have hq9 := hq8.frOwn ho8 (by decide) (by decide) (by decide) hf9
  have hs9 := hs8.fr hf9 (fun b hb h => Own.ne_own hs8 ho8 (by decide) b hb h)
  have hfw9 : Fr No w w9 := hfw8.trans' hf9 (fun k hk => .inr (by have := hfwz k hk; omega))
  clear h28 h38 h48 hq8 hs8 hfw8 ho8 hf9 hxi8 hxl8
  (apply vL_nil; apply seqP_normal; apply vC_seq; apply vC_region; ((apply vL_val); (case h => ((apply opv_loadbC); exact rfl; exact rfl; (first | assumption | infer_instance); (first | exact (rfl : _ = [_]) | exact (rfl : _ = [_, _]) | exact (rfl : _ = [_, _, _]) | exact (rfl : _ = [_, _, _, _]) | exact (rfl : _ = [_, _, _, _, _]) | exact (rfl : _ = [_, _, _, _, _, _]) | exact (rfl : _ = [_, _, _, _, _, _, _]) | exact (rfl : _ = [_, _, _, _, _, _, _, _]) | exact (rfl : _ = [_, _, _, _, _, _, _, _, _]) | exact (rfl : _ = [_, _, _, _, _, _, _, _, _, _]) | exact (rfl : _ = [_, _, _, _, _, _, _, _, _, _, _]) | exact (rfl : _ = [_, _, _, _, _, _, _, _, _, _, _, _])); exact rfl))); ((apply vL_skip); (case h => ((apply ops_storen); (first | exact norm_eq rfl | ((conv => lhs; whnf) <;> exact rfl)); (first | exact norm_eq rfl | ((conv => lhs; whnf) <;> exact rfl)); exact rfl; (first | exact (fun u hu => EncOk.one _ u hu) | (intro u hu; simp at hu; rcases hu with rfl | rfl <;> (first | rfl | assumption)) | (intro u hu; simp at hu; rcases hu with rfl | rfl | rfl <;> (first | rfl | assumption)) | (intro u hu; simp at hu; rcases hu with rfl | rfl | rfl | rfl <;> (first | rfl | assumption)) | exact (fun u hu => EncOk.one _ u (List.mem_of_mem_drop (List.mem_of_mem_take hu))) | (intro u hu; simp only [List.mem_cons, List.not_mem_nil, or_false] at hu; rcases hu with rfl | rfl | rfl | rfl | rfl | rfl | rfl | rfl | rfl | rfl <;> (first | rfl | assumption)) | (intro u hu; simp only [List.mem_cons, List.not_mem_nil, or_false] at hu; rcases hu with rfl | rfl | rfl | rfl | rfl | rfl | rfl | rfl | rfl | rfl | rfl | rfl | rfl | rfl | rfl | rfl | rfl | rfl | rfl | rfl | rfl | rfl | rfl <;> (first | rfl | assumption)) | (intro u hu; simp only [List.mem_cons, List.not_mem_nil, or_false] at hu; rcases hu with rfl | rfl | rfl | rfl | rfl | rfl | rfl | rfl | rfl | rfl | rfl | rfl | rfl | rfl | rfl | rfl | rfl | rfl | rfl | rfl | rfl | rfl | rfl | rfl <;> (first | rfl | assumption)) | (intro u hu; simp only [List.mem_cons, List.not_mem_nil, or_false] at hu; rcases hu with rfl | rfl | rfl | rfl | rfl | rfl | rfl | rfl | rfl | rfl | rfl | rfl | rfl | rfl | rfl | rfl | rfl | rfl | rfl | rfl | rfl | rfl | rfl | rfl | rfl | rfl <;> (first | rfl | assumption))); (first | assumption | infer_instance); (first | decide | exact of_decide_eq_true rfl | (simp; done))))); (iterate 2 (((apply vL_val); (case h => ((apply opv_E); exact rfl))))); apply vL_nil; apply seqP_normal; apply vC_ret; apply seqP_ret)
  (apply retC3; (case ha => exact rfl); (case hD => exact rfl); (case hb => (first | assumption | infer_instance)); (case hcs => exact rfl); (case hl => exact rfl); (case hu => (first | exact norm_eq rfl | ((conv => lhs; whnf) <;> exact rfl))); (case hu2 => (first | exact norm_eq rfl | ((conv => lhs; whnf) <;> exact rfl))))
  have hcl : ClOwn w9.heap { c1 with broker := a.leader, ws := [{ x1 with due := c1.now + 1, broker := a.leader }] } := ⟨ho9, fun y hy => by rw [List.mem_singleton.1 hy]; exact hq9, hs9⟩
  refine ⟨{ c1 with broker := a.leader, ws := [{ x1 with due := c1.now + 1, broker := a.leader }] }, _, rfl, hcl.frBlk h49 ⟨by decide, by decide, by decide⟩ ⟨by decide, by decide⟩ ((Fr.refl (fun k => k = b4) w9).set b4 (clE { c1 with broker := a.leader }).toArray (.inl rfl)), hfw9.set _ _ (.inr (by omega)), ?_, rfl⟩
  have e1 : c1.ss = c.ss := by have := congrArg CL.ss hnf; exact this
  have e2 : c1.id = c.id := by have := congrArg CL.id hnf; exact this
  have e3 : c1.next = c.next := by have := congrArg CL.next hnf; exact this
  have e4 : c1.pid = c.pid := by have := congrArg CL.pid hnf; exact this
  have e5 : c1.ep = c.ep := by have := congrArg CL.ep hnf; exact this
  have e6 : c1.stale = c.stale := by have := congrArg CL.stale hnf; exact this
  have e7 : x1.rq.nf = x.rq.nf := by have := congrArg WT.rq hx1n; exact this
  have e8 : x1.tries = x.tries := by have := congrArg WT.tries hx1n; exact this
  show ({ c1 with broker := a.leader, wv := nilO, sv := nilO, ws := [({ rq := x1.rq.nf, due := c1.now + 1, tries := x1.tries, broker := a.leader } : WT)] } : CL) = { c with broker := a.leader, wv := nilO, sv := nilO, ws := [({ rq := x.rq.nf, due := c.now + 1, tries := x.tries, broker := a.leader } : WT)] }
  rw [e7, e8, hnw, e1, e2, e3, e4, e5, e6, hbk]
end Go.Proofs.Ytchfaeaagpemlaa

set_option maxRecDepth 100000
namespace Go.Proofs.Ytchfaeaagpemlaa
open Go Go.Eng
section
variable {P : Program} {e : Env} {w : World} {ty : TypeId} {p : String} {af : Array Edge}
theorem opw_clearN {x : Operand} {t E b o n c by' sz : Nat} {z : List Value} {cs : List Value} {T : TypeId} [TUnd P t (.slice E)] [TInfo P E sz by' z] (hx : ev e x = .slice (some ⟨b, o, none⟩) n c) (hz : z.length = sz) (hpos : 0 < sz) (hz1 : ∀ u ∈ z, u.oneCell' = true) (hb : Blk w.heap b cs T) (ho : o + n * sz ≤ cs.length) :
    OpV P ⟨none, .call ⟨.builtin .clear, #[x], #[t]⟩, ty, p, af, none⟩ e w (.tuple #[]) (w.setRow b (cs.take o ++ (List.replicate n z).flatten ++ cs.drop (o + n * sz)).toArray) := by
  obtain ⟨i, zv, h1, h2, h3, h4, h5⟩ := TInfo.out (P := P) (t := E)
  have hzv : ∀ w, (zeroValue E).run P w = .ok zv w := fun w => by simp [zeroValue, run_typeInfo' h1, h4]
  have hzc : (Builtin.zeroCells zv.cells n).toList = (List.replicate n z).flatten := by
    rw [h5]
    show (madeCells z.toArray (n * z.toArray.size)).toList = _
    rw [List.size_toArray, hz, zeros_eq hz hpos]
  have hu := run_underlying (TUnd.out (P := P) (t := t)) w
  have hfl : ((List.replicate n z).flatten).length = n * sz := by simp [hz]
  cases n with
  | zero =>
    have e1 : (cs.take o ++ (List.replicate 0 z).flatten ++ cs.drop (o + 0 * sz)).toArray = cs.toArray := by simp
    rw [e1, setRow_id hb]
    simp [OpV, execOp, resolve, invoke, builtin, hx, Builtin.clear_, hu]
  | succ n =>
    have hst := run_storeCells_at (P := P) b o T ((List.replicate (n + 1) z).flatten) 0 cs.toArray w hb.get (by rw [hfl]; simpa using ho) (fun u hu => by
      obtain ⟨l, h1, h2⟩ := List.mem_flatten.1 hu
      rw [List.eq_of_mem_replicate h1] at h2
      exact hz1 u h2)
    simp only [Nat.add_zero] at hst
    simp [OpV, execOp, resolve, invoke, builtin, hx, Builtin.clear_, hu, hzv, hzc]
    rw [hfl] at hst
    rw [hst]
    simp only [List.append_assoc]
    rfl
end
theorem opv_slice_nil {P : Program} {d : Option Nat} {ty : TypeId} {p : String} {af : Array Edge} {e : Env} {w : World} {x lo : Operand} {t E sz by' : Nat} {z : List Value} {k : IntKind} [TUnd P t (.slice E)] [TInfo P E sz by' z] (hx : ev e x = .slice none 0 0) (hl : ev e lo = .int k 0) : OpV P ⟨d, .slice t x (some lo) none none, ty, p, af, none⟩ e w (.slice none 0 0) w := by
  have hu := run_underlying (TUnd.out (P := P) (t := t)) w
  have g0 : (0 : Int) ≤ 0 := Int.le_refl 0
  have g1 : (0 : Int) ≤ ((0 : Nat) : Int) := Int.le_refl 0
  simp only [OpV, execOp, Instr.sliceAt, Sem.run_bind, hu, Result.andThen_ok, Instr.slice, hx, Instr.sliceBounds, Option.map_some, Option.map_none, hl, Go.Eng.run_sliceBound g0 g1, Sem.run_pure, run_sizeOf' (P := P) (t := E)]
  rfl
theorem deleteN_wt (v : Value) (xs : List WT) (i : Nat) (w : World) (hi : i < xs.length) (ho : Own w.heap 42 26 wtE v xs) :
    Rets Try.prog 21 #[v, .int .i64 i, .int .i64 ((i : Int) + 1)] w fun u w' => Fr (fun k => own v = some k) w w' ∧ Own w'.heap 42 26 wtE u (xs.take i ++ xs.drop (i + 1)) ∧ own u = own v ∧ u.oneCell' = true := by
  have hs := ho.rd.small
  rcases ho.shape with ⟨_, rfl⟩ | ⟨g, cap, cs, rfl, hb, hn, hm, hl, ht⟩
  · simp at hi
  have hl1 : (xs.take i).length = i := by simp; omega
  have hl2 : (xs.drop (i + 1)).length = xs.length - (i + 1) := by simp
  have hm' : cap ≤ 9223372036854775807 := by unfold maxLen at hm; omega
  have hf1 : ((xs.take i ++ xs.drop (i + 1)).flatMap wtE).length = (i + (xs.length - (i + 1))) * 26 := by rw [flatMap_len _ (fun x _ => EncOk.len x)]; simp; omega
  have hf2 : ((xs.drop (i + 1)).flatMap wtE).length = (xs.length - (i + 1)) * 26 := by rw [flatMap_len _ (fun x _ => EncOk.len x)]; simp
  have htk : cs.take (i * 26) = (xs.take i).flatMap wtE := by rw [flatMap_take xs i ho.size, ← ht, List.take_take]; congr 1; omega
  have hrep : ∀ m : Nat, ((List.replicate m [Value.int .u8 0, Value.int .i64 0, Value.int .i64 0, Value.string ⟨#[]⟩, Value.int .i64 0, Value.int .i64 0, Value.int .i64 0, Value.int .i64 0, Value.slice none 0 0, Value.int .i64 0, Value.int .i64 0, Value.int .i64 0, Value.int .u8 0, Value.string ⟨#[]⟩, Value.string ⟨#[]⟩, Value.int .i64 0, Value.slice none 0 0, Value.string ⟨#[]⟩, Value.int .i64 0, Value.int .i64 0, Value.int .i64 0, Value.int .i64 0, Value.int .i64 0, Value.int .i64 0, Value.int .i64 0, Value.int .i64 0]).flatten).length = m * 26 := fun m => by simp
  refine rets_of Try.func21 rfl Try.ntmps21 rfl rfl (by kernel_rfl) ?_
  (apply vC_seq; apply vC_region; ((apply vL_val); (case h => ((apply opv_E); exact rfl))); apply vL_nil; apply seqP_normal; apply vC_seq; apply vC_region; (iterate 4 (((apply vL_val); (case h => ((apply opv_E); exact rfl))))); ((apply vL_val); (case h => ((apply opv_lenc); exact rfl))); ((apply vL_val); (case h => ((apply opv_slice3); exact rfl; exact rfl; exact rfl; exact rfl; (first | omega | (simp only [List.length_map]; omega)); (first | omega | (simp only [List.length_map]; omega)); (first | omega | (simp only [List.length_map]; omega)); (first | omega | (simp only [List.length_map]; omega))))); apply vL_nil; apply seqP_normal; (iterate 2 (apply vC_seq)); apply vC_region; (iterate 3 (((apply vL_val); (case h => ((apply opv_E); exact rfl))))); apply vL_nil; apply seqP_normal)
  refine vC_cond_dec rfl (fun h => by omega) (fun h => ?_)
  (apply vC_skip; apply seqP_normal; apply vC_seq; apply vC_region; ((apply vL_val); (case h => ((apply opv_E); exact rfl))); ((apply vL_val); (case h => ((apply opv_lenc); exact rfl))); ((apply vL_val); (case h => ((apply opv_E); exact rfl))); apply vL_nil; apply seqP_normal; apply vC_seq)
  refine vC_draw' (fun _ => True) trivial ?_
  ((apply (tk 0)); (case hi => exact rfl); (case hf => kernel_rfl); (case hS => trivial); (case hy => (intro _ _; (((apply opv_E); exact rfl)))))
  ((apply (tk 1)); (case hi => exact rfl); (case hf => kernel_rfl); (case hS => trivial); (case hy => (intro _ _; (((apply opv_E); exact rfl)))))
  ((apply (tk 2)); (case hi => exact rfl); (case hf => kernel_rfl); (case hS => trivial); (case hy => (intro _ _; (((apply opv_slice_hi'); exact rfl; exact rfl; (first | omega | (simp only [List.length_map]; omega)); (first | omega | (simp only [List.length_map]; omega)))))))
  ((apply (tk 3)); (case hi => exact rfl); (case hf => kernel_rfl); (case hS => trivial); (case hy => (intro _ _; (((apply opv_E); exact rfl)))))
  ((apply (tk 4)); (case hi => exact rfl); (case hf => kernel_rfl); (case hS => trivial); (case hy => (intro _ _; (((apply opv_E); exact rfl)))))
  ((apply (tk 5)); (case hi => exact rfl); (case hf => kernel_rfl); (case hS => trivial); (case hy => (intro _ _; (((apply opv_slice_lo'); exact rfl; exact rfl; (first | omega | (simp only [List.length_map]; omega)); (first | omega | (simp only [List.length_map]; omega)))))))
  have et : ((i : Int) + 1).toNat = i + 1 := by omega
  refine tkv 6 rfl (by kernel_rfl) trivial (opw_append_room (enc := wtE) (xs := xs.take i) (ys := xs.drop ((i : Int) + 1).toNat) (cs := cs) (by (first | exact norm_eq rfl | ((conv => lhs; whnf) <;> exact rfl))) (by (first | exact norm_eq rfl | ((conv => lhs; whnf) <;> exact rfl))) (by rw [hl1]; omega) (by rw [et, hl2]) hb hl (Rd.dropIf ho.rd (by omega)) (by rw [hl1, et, hl2]; omega)) ?_
  rw [et, hl1, hl2]
  ((apply (tk 7)); (case hi => exact rfl); (case hf => kernel_rfl); (case hS => trivial); (case hy => (intro _ _; (((apply opv_E); exact rfl)))))
  refine vA_done (by kernel_rfl) trivial ?_
  have hb2 := Blk.set (w := w.drew) (b := g) (c := cs) (T := 42) (c' := cs.take (i * 26) ++ (xs.drop (i + 1)).flatMap wtE ++ cs.drop (i * 26 + (xs.length - (i + 1)) * 26)) hb
  (apply seqP_normal; apply vC_seq; apply vC_region; (iterate 2 (((apply vL_val); (case h => ((apply opv_E); exact rfl))))); ((apply vL_val); (case h => ((apply opv_lenc); exact rfl))); ((apply vL_val); (case h => ((apply opv_E); exact rfl))); ((apply vL_val); (case h => ((apply opv_slice_lh'); exact rfl; exact rfl; exact rfl; (first | omega | (simp only [List.length_map]; omega)); (first | omega | (simp only [List.length_map]; omega)); (first | omega | (simp only [List.length_map]; omega))))))
  apply vL_val
  (case h => (refine opw_clearN (sz := 26) (z := [Value.int .u8 0, Value.int .i64 0, Value.int .i64 0, Value.string ⟨#[]⟩, Value.int .i64 0, Value.int .i64 0, Value.int .i64 0, Value.int .i64 0, Value.slice none 0 0, Value.int .i64 0, Value.int .i64 0, Value.int .i64 0, Value.int .u8 0, Value.string ⟨#[]⟩, Value.string ⟨#[]⟩, Value.int .i64 0, Value.slice none 0 0, Value.string ⟨#[]⟩, Value.int .i64 0, Value.int .i64 0, Value.int .i64 0, Value.int .i64 0, Value.int .i64 0, Value.int .i64 0, Value.int .i64 0, Value.int .i64 0]) (by (first | exact norm_eq rfl | ((conv => lhs; whnf) <;> exact rfl))) rfl (by decide) (by decide) hb2 ?_; rw [if_neg (by omega)]; simp only [List.length_append, List.length_take, List.length_drop, hf2]; omega))
  (apply vL_nil; apply seqP_normal; apply vC_seq; apply vC_region; (iterate 2 (((apply vL_val); (case h => ((apply opv_E); exact rfl))))); apply vL_nil; apply seqP_normal; apply vC_ret)
  (apply ret1; (case h1 => (first | exact norm_eq rfl | ((conv => lhs; whnf) <;> exact rfl))))
  refine ⟨?_, ?_, rfl, rfl⟩
  · exact Fr.set (Fr.set (Fr.drew (Fr.refl (fun k => own (Value.slice (some ⟨g, 0, none⟩) xs.length cap) = some k) w)) g _ (.inl rfl)) g _ (.inl rfl)
  · refine ⟨fun x _ => EncOk.len x, .inr ⟨g, cap, _, ?_, Blk.set hb2, ?_, hm, ?_, ?_⟩⟩
    · rw [List.length_append, hl1, hl2]
    · rw [List.length_append, hl1, hl2]; omega
    · rw [if_neg (by omega)]; simp only [List.length_append, List.length_take, List.length_drop, hrep, hf2]; omega
    · rw [if_neg (by omega)]
      have hpre : (cs.take (i * 26) ++ (xs.drop (i + 1)).flatMap wtE) = (xs.take i ++ xs.drop (i + 1)).flatMap wtE := by rw [List.flatMap_append, htk]
      rw [hpre]
      have hlen : (xs.take i ++ xs.drop (i + 1)).length * 26 = (i + (xs.length - (i + 1))) * 26 := by rw [List.length_append, hl1, hl2]
      rw [hlen, List.append_assoc (List.take _ _)]
      rw [show 0 + ((i + (xs.length - (i + 1)) : Nat) : Int).toNat * 26 = (i + (xs.length - (i + 1))) * 26 by omega]
      rw [List.take_append_of_le_length (l₁ := List.take _ _) (by simp only [List.length_append, List.length_take, hf1]; omega), List.take_take, Nat.min_self, List.take_left' hf1]
theorem clone_pl (v : Value) (xs : List (ByteArray × Int)) (w : World) (hr : Rd w.heap 2 tE v xs) (hbig : xs.length * 24 ≤ 140737488355328) :
    Rets Try.prog 25 #[v] w fun u w' => Fr No w w' ∧ Own w'.heap 36 2 tE u xs ∧ (∀ b, own u = some b → w.heap.size ≤ b) ∧ u.oneCell' = true := by
  have hs := hr.small
  refine rets_of Try.func25 rfl Try.ntmps25 rfl rfl (by kernel_rfl) ?_
  rcases hr.shape with ⟨rfl, none | a, rfl⟩ | ⟨b, o, c, rfl, hc⟩
  · (apply vC_seq; apply vC_region; ((apply vL_val); (case h => ((apply opv_E); exact rfl))); apply vL_nil; apply seqP_normal; (iterate 2 (apply vC_seq)); apply vC_region; ((apply vL_val); (case h => ((apply opv_E); exact rfl))); ((apply vL_val); (case h => ((apply opv_eql_snil); exact rfl; exact rfl))); apply vL_nil; apply seqP_normal; ((apply vC_cond_true); exact rfl); apply vC_seq; apply vC_region; ((apply vL_val); (case h => ((apply opv_E); exact rfl))); apply vL_nil; apply seqP_normal; apply vC_ret; apply seqP_ret)
    (apply ret1; (case h1 => (first | exact norm_eq rfl | ((conv => lhs; whnf) <;> exact rfl))))
    exact ⟨Fr.refl _ _, Own.nil _ _ _ _, fun b hb => (by cases hb), rfl⟩
  · (apply vC_seq; apply vC_region; ((apply vL_val); (case h => ((apply opv_E); exact rfl))); apply vL_nil; apply seqP_normal; (iterate 2 (apply vC_seq)); apply vC_region; ((apply vL_val); (case h => ((apply opv_E); exact rfl))); ((apply vL_val); (case h => ((apply opv_eql_snil); exact rfl; exact rfl))); apply vL_nil; apply seqP_normal; ((apply vC_cond_false); exact rfl); apply vC_skip; apply seqP_normal; apply vC_seq; apply vC_region; ((apply vL_val); (case h => ((apply opw_buildSl); exact rfl; exact rfl; exact rfl; (first | exact (rfl : _ = some []) | exact (rfl : _ = some [_]) | exact (rfl : _ = some [_, _]) | exact (rfl : _ = some [_, _, _]) | exact (rfl : _ = some [_, _, _, _]) | exact (rfl : _ = some [_, _, _, _, _]) | exact (rfl : _ = some [_, _, _, _, _, _]) | exact (rfl : _ = some [_, _, _, _, _, _, _]) | exact (rfl : _ = some [_, _, _, _, _, _, _, _]) | exact (rfl : _ = some [_, _, _, _, _, _, _, _, _]) | exact (rfl : _ = some [_, _, _, _, _, _, _, _, _, _]) | exact (rfl : _ = some [_, _, _, _, _, _, _, _, _, _, _]) | exact (rfl : _ = some [_, _, _, _, _, _, _, _, _, _, _, _]) | exact (rfl : _ = some [_, _, _, _, _, _, _, _, _, _, _, _, _]) | exact (rfl : _ = some [_, _, _, _, _, _, _, _, _, _, _, _, _, _]) | exact (rfl : _ = some [_, _, _, _, _, _, _, _, _, _, _, _, _, _, _]) | exact (rfl : _ = some [_, _, _, _, _, _, _, _, _, _, _, _, _, _, _, _]) | exact (rfl : _ = some [_, _, _, _, _, _, _, _, _, _, _, _, _, _, _, _, _, _, _, _, _, _, _]) | exact (rfl : _ = some [_, _, _, _, _, _, _, _, _, _, _, _, _, _, _, _, _, _, _, _, _, _, _, _]) | exact (rfl : _ = some [_, _, _, _, _, _, _, _, _, _, _, _, _, _, _, _, _, _, _, _, _, _, _, _, _, _]) | exact (rfl : _ = some [_, _, _, _, _, _, _, _, _, _, _, _, _, _, _, _, _, _]))))); ((apply vL_val); (case h => ((apply opv_E); exact rfl))))
    refine vL_append (enc := tE) (xs := []) (ys := []) (T := 36) (sz := 2) (by (first | exact norm_eq rfl | ((conv => lhs; whnf) <;> exact rfl))) (by (first | exact norm_eq rfl | ((conv => lhs; whnf) <;> exact rfl))) (Own.newN tE [] rfl rfl (by decide)) inferInstance rfl (by decide) ?_ ?_ ?_
    · simp [maxLen]
    · simp
    intro v' w2 ho hf hfresh hone _
    (((apply vL_val); (case h => ((apply opv_assign); ((conv => lhs; whnf) <;> exact rfl)))); apply vL_nil; apply seqP_normal; apply vC_ret)
    (apply ret1; (case h1 => (first | exact norm_eq rfl | ((conv => lhs; whnf) <;> exact rfl))))
    refine ⟨((Fr.refl No w).alloc _).trans' hf (fun k hk => .inr (by cases hk; exact Nat.le_refl _)), ho, fun b hb => ?_, hone⟩
    rcases hfresh b hb with h | h
    · cases h; exact Nat.le_refl _
    · rw [alloc_size] at h; omega
  · (apply vC_seq; apply vC_region; ((apply vL_val); (case h => ((apply opv_E); exact rfl))); apply vL_nil; apply seqP_normal; (iterate 2 (apply vC_seq)); apply vC_region; ((apply vL_val); (case h => ((apply opv_E); exact rfl))); ((apply vL_val); (case h => ((apply opv_eql_snil); exact rfl; exact rfl))); apply vL_nil; apply seqP_normal; ((apply vC_cond_false); exact rfl); apply vC_skip; apply seqP_normal; apply vC_seq; apply vC_region; ((apply vL_val); (case h => ((apply opw_buildSl); exact rfl; exact rfl; exact rfl; (first | exact (rfl : _ = some []) | exact (rfl : _ = some [_]) | exact (rfl : _ = some [_, _]) | exact (rfl : _ = some [_, _, _]) | exact (rfl : _ = some [_, _, _, _]) | exact (rfl : _ = some [_, _, _, _, _]) | exact (rfl : _ = some [_, _, _, _, _, _]) | exact (rfl : _ = some [_, _, _, _, _, _, _]) | exact (rfl : _ = some [_, _, _, _, _, _, _, _]) | exact (rfl : _ = some [_, _, _, _, _, _, _, _, _]) | exact (rfl : _ = some [_, _, _, _, _, _, _, _, _, _]) | exact (rfl : _ = some [_, _, _, _, _, _, _, _, _, _, _]) | exact (rfl : _ = some [_, _, _, _, _, _, _, _, _, _, _, _]) | exact (rfl : _ = some [_, _, _, _, _, _, _, _, _, _, _, _, _]) | exact (rfl : _ = some [_, _, _, _, _, _, _, _, _, _, _, _, _, _]) | exact (rfl : _ = some [_, _, _, _, _, _, _, _, _, _, _, _, _, _, _]) | exact (rfl : _ = some [_, _, _, _, _, _, _, _, _, _, _, _, _, _, _, _]) | exact (rfl : _ = some [_, _, _, _, _, _, _, _, _, _, _, _, _, _, _, _, _, _, _, _, _, _, _]) | exact (rfl : _ = some [_, _, _, _, _, _, _, _, _, _, _, _, _, _, _, _, _, _, _, _, _, _, _, _]) | exact (rfl : _ = some [_, _, _, _, _, _, _, _, _, _, _, _, _, _, _, _, _, _, _, _, _, _, _, _, _, _]) | exact (rfl : _ = some [_, _, _, _, _, _, _, _, _, _, _, _, _, _, _, _, _, _]))))); ((apply vL_val); (case h => ((apply opv_E); exact rfl))))
    refine vL_append (enc := tE) (xs := []) (ys := xs) (T := 36) (sz := 2) (by (first | exact norm_eq rfl | ((conv => lhs; whnf) <;> exact rfl))) (by (first | exact norm_eq rfl | ((conv => lhs; whnf) <;> exact rfl))) (Own.newN tE [] rfl rfl (by decide)) inferInstance rfl (by decide) ?_ ?_ ?_
    · simp [maxLen]; omega
    · simpa using hbig
    intro v' w2 ho hf hfresh hone _
    (((apply vL_val); (case h => ((apply opv_assign); ((conv => lhs; whnf) <;> exact rfl)))); apply vL_nil; apply seqP_normal; apply vC_ret)
    (apply ret1; (case h1 => (first | exact norm_eq rfl | ((conv => lhs; whnf) <;> exact rfl))))
    refine ⟨((Fr.refl No w).alloc _).trans' hf (fun k hk => .inr (by cases hk; exact Nat.le_refl _)), ho, fun b hb => ?_, hone⟩
    rcases hfresh b hb with h | h
    · cases h; exact Nat.le_refl _
    · rw [alloc_size] at h; omega
theorem insq31 (v : Value) (x : SQ) (w : World) {b : Nat} (ho : Own w.heap 65 3 sqE v []) (hx : Rd w.heap 3 sqE (.slice (some ⟨b, 0, none⟩) 1 1) [x]) :
    Rets Try.prog 39 #[v, .int .i64 0, .slice (some ⟨b, 0, none⟩) 1 1] w fun u w' => Own w'.heap 65 3 sqE u [x] ∧ Fr (fun k => own v = some k) w w' ∧ (∀ b, own u = some b → own v = some b ∨ w.heap.size ≤ b) ∧ u.oneCell' = true := by
  have hs := ho.rd.small
  refine rets_of Try.func39 rfl Try.ntmps39 rfl rfl (by kernel_rfl) ?_
  rcases ho.shape with ⟨rfl, _⟩ | ⟨g, cap, cs, rfl, hg, hn, hm, hcl, ht⟩
  · (apply vC_seq; apply vC_region; ((apply vL_val); (case h => ((apply opv_E); exact rfl))); apply vL_nil; apply seqP_normal; apply vC_seq; apply vC_region; (iterate 2 (((apply vL_val); (case h => ((apply opv_E); exact rfl))))))
    refine vL_val (opv_slice_nil rfl rfl) ?_
    (apply vL_nil; apply seqP_normal; apply vC_seq; apply vC_region; ((apply vL_val); (case h => ((apply opv_E); exact rfl))); ((apply vL_val); (case h => ((apply opv_lenc); exact rfl))); ((apply vL_val); (case h => ((apply opv_E); exact rfl))); apply vL_nil; apply seqP_normal; (iterate 2 (apply vC_seq)); apply vC_region; (iterate 2 (((apply vL_val); (case h => ((apply opv_E); exact rfl))))); apply vL_nil; apply seqP_normal; ((apply vC_cond_false); exact rfl); apply vC_skip; apply seqP_normal; apply vC_seq; apply vC_region; ((apply vL_val); (case h => ((apply opv_E); exact rfl))); ((apply vL_val); (case h => ((apply opv_lenc); exact rfl))); ((apply vL_val); (case h => ((apply opv_E); exact rfl))); apply vL_nil; apply seqP_normal; (iterate 2 (apply vC_seq)); apply vC_region; (iterate 3 (((apply vL_val); (case h => ((apply opv_E); exact rfl))))); apply vL_nil; apply seqP_normal; ((apply vC_cond_true); exact rfl); apply vC_seq; apply vC_region; (iterate 2 (((apply vL_val); (case h => ((apply opv_E); exact rfl))))))
    refine vL_append (enc := sqE) (xs := []) (ys := [x]) (T := 65) (sz := 3) (by (first | exact norm_eq rfl | ((conv => lhs; whnf) <;> exact rfl))) (by (first | exact norm_eq rfl | ((conv => lhs; whnf) <;> exact rfl))) (Own.nil _ _ _ _) hx rfl (by decide) (by simp [maxLen]) (by simp) ?_
    intro v' w2 ho2 hf2 hfr2 hone2 _
    (((apply vL_val); (case h => ((apply opv_assign); ((conv => lhs; whnf) <;> exact rfl)))); apply vL_nil; apply seqP_normal; apply vC_ret; apply seqP_ret)
    (apply ret1; (case h1 => (first | exact norm_eq rfl | ((conv => lhs; whnf) <;> exact rfl))))
    exact ⟨ho2, hf2, hfr2, hone2⟩
  · (apply vC_seq; apply vC_region; ((apply vL_val); (case h => ((apply opv_E); exact rfl))); apply vL_nil; apply seqP_normal; apply vC_seq; apply vC_region; (iterate 2 (((apply vL_val); (case h => ((apply opv_E); exact rfl))))); ((apply vL_val); (case h => ((apply opv_slice_lo'); exact rfl; exact rfl; (first | omega | (simp only [List.length_map]; omega)); (first | omega | (simp only [List.length_map]; omega))))); apply vL_nil; apply seqP_normal; apply vC_seq; apply vC_region; ((apply vL_val); (case h => ((apply opv_E); exact rfl))); ((apply vL_val); (case h => ((apply opv_lenc); exact rfl))); ((apply vL_val); (case h => ((apply opv_E); exact rfl))); apply vL_nil; apply seqP_normal; (iterate 2 (apply vC_seq)); apply vC_region; (iterate 2 (((apply vL_val); (case h => ((apply opv_E); exact rfl))))); apply vL_nil; apply seqP_normal; ((apply vC_cond_false); exact rfl); apply vC_skip; apply seqP_normal; apply vC_seq; apply vC_region; ((apply vL_val); (case h => ((apply opv_E); exact rfl))); ((apply vL_val); (case h => ((apply opv_lenc); exact rfl))); ((apply vL_val); (case h => ((apply opv_E); exact rfl))); apply vL_nil; apply seqP_normal; (iterate 2 (apply vC_seq)); apply vC_region; (iterate 3 (((apply vL_val); (case h => ((apply opv_E); exact rfl))))); apply vL_nil; apply seqP_normal; ((apply vC_cond_true); exact rfl); apply vC_seq; apply vC_region; (iterate 2 (((apply vL_val); (case h => ((apply opv_E); exact rfl))))))
    refine vL_append (enc := sqE) (xs := []) (ys := [x]) (T := 65) (sz := 3) (by (first | exact norm_eq rfl | ((conv => lhs; whnf) <;> exact rfl))) (by (first | exact norm_eq rfl | ((conv => lhs; whnf) <;> exact rfl))) ho hx rfl (by decide) (by simp [maxLen]) (by simp) ?_
    intro v' w2 ho2 hf2 hfr2 hone2 _
    (((apply vL_val); (case h => ((apply opv_assign); ((conv => lhs; whnf) <;> exact rfl)))); apply vL_nil; apply seqP_normal; apply vC_ret; apply seqP_ret)
    (apply ret1; (case h1 => (first | exact norm_eq rfl | ((conv => lhs; whnf) <;> exact rfl))))
    exact ⟨ho2, hf2, hfr2, hone2⟩
end Go.Proofs.Ytchfaeaagpemlaa

set_option maxRecDepth 100000
namespace Go.Proofs.Ytchfaeaagpemlaa
open Go Go.Eng
theorem stands31 (c : CL) (r : RQ) (b2 : Nat) (w : World) (hb : Blk w.heap b2 (clE c) 25) (ho : Own w.heap 65 3 sqE c.sv.1 []) (hss : c.ss = []) (hr : RqRd w.heap r) (hf : 0 ≤ r.fi ∧ r.fi ≤ 1000000) (hl : r.brs.length ≤ 1000) :
    Rets Try.prog 22 #[.pointer (some ⟨b2, 0, none⟩), .agg (rqE r).toArray] w fun u w' => u = .tuple #[] ∧ ∃ sv : OV, Blk w'.heap b2 (clE { c with sv := sv, ss := [⟨r.topic, r.part, r.fi + r.brs.length⟩] }) 25 ∧ Own w'.heap 65 3 sqE sv.1 [⟨r.topic, r.part, r.fi + r.brs.length⟩] ∧ Fr (fun k => k = b2 ∨ own c.sv.1 = some k) w w' ∧ (∀ b, own sv.1 = some b → own c.sv.1 = some b ∨ w.heap.size ≤ b) := by
  have hw0 := c.wv.2
  have hs0 := c.sv.2
  have hbv := r.brv.2
  have htv := r.trv.2
  refine rets_of Try.func22 rfl Try.ntmps22 rfl rfl (by kernel_rfl) ?_
  ((apply vC_seq; apply vC_region)); ((((apply vL_val); (case h => ((apply opw_boxn); exact rfl))); apply vL_nil)); with_reducible apply seqP_normal
  ((apply vC_seq; apply vC_region))
  refine vL_gen (fun w' => Fr No w w' ∧ Blk w'.heap w.heap.size (rqE r) 40) ⟨by (repeat (first | exact Fr.refl _ _ | assumption | with_reducible apply Fr.allocSet | with_reducible apply Fr.alloc | with_reducible apply Fr.drewN | with_reducible apply Fr.drew | ((with_reducible apply Fr.set); rotate_left; (right; ((try simp only [alloc_size]); omega))) | (refine Fr.trans ?_ (by assumption)))), inferInstance⟩ ?_
  rintro w1 ⟨hf1, h3⟩
  have hb1 := hb.frN hf1
  have ho1 := ho.frN hf1
  have hr1 := hr.frN hf1
  have hrb1 := hr1.1
  have hlb := hb.lt
  obtain ⟨b3, eb3⟩ : ∃ b3, b3 = w.heap.size := ⟨_, rfl⟩
  rw [← eb3] at h3 ⊢
  haveI n23 : NeB b2 b3 := ⟨by omega⟩
  haveI n32 : NeB b3 b2 := ⟨by omega⟩
  ((iterate 2 (((apply vL_val); (case h => ((apply opv_fieldAddr); exact rfl))))); ((apply vL_val); (case h => ((apply opv_loadb1); exact rfl; exact rfl; (first | assumption | infer_instance); exact rfl))); (iterate 2 (((apply vL_val); (case h => ((apply opv_fieldAddr); exact rfl))))); ((apply vL_val); (case h => ((apply opv_loadb1); exact rfl; exact rfl; (first | assumption | infer_instance); exact rfl))); ((apply vL_val); (case h => ((apply opv_len); (first | exact norm_eq rfl | ((conv => lhs; whnf) <;> exact rfl)); (first | assumption | infer_instance)))); ((apply vL_val); (case h => ((apply opv_add); exact rfl; exact rfl; (first | omega | (simp only [List.length_map]; omega))))); ((apply vL_val); (case h => ((apply opv_E); exact rfl))); apply vL_nil; apply seqP_normal; apply vC_seq)
  refine vC_draw' (fun wf => Fr No w1 wf) ((Fr.refl No w1).drew) ?_
  ((apply (tk 0)); (case hi => exact rfl); (case hf => kernel_rfl); (case hS => (repeat (first | exact Fr.refl _ _ | assumption | with_reducible apply Fr.allocSet | with_reducible apply Fr.alloc | with_reducible apply Fr.drewN | with_reducible apply Fr.drew | ((with_reducible apply Fr.set); rotate_left; (right; ((try simp only [alloc_size]); omega))) | (refine Fr.trans ?_ (by assumption))))); (case hy => (intro wf hwf; haveI := From.mk hwf; (((apply opv_E); exact rfl)))))
  ((apply (tk 1)); (case hi => exact rfl); (case hf => kernel_rfl); (case hS => (repeat (first | exact Fr.refl _ _ | assumption | with_reducible apply Fr.allocSet | with_reducible apply Fr.alloc | with_reducible apply Fr.drewN | with_reducible apply Fr.drew | ((with_reducible apply Fr.set); rotate_left; (right; ((try simp only [alloc_size]); omega))) | (refine Fr.trans ?_ (by assumption))))); (case hy => (intro wf hwf; haveI := From.mk hwf; (((apply opv_E); exact rfl)))))
  ((apply (tk 2)); (case hi => exact rfl); (case hf => kernel_rfl); (case hS => (repeat (first | exact Fr.refl _ _ | assumption | with_reducible apply Fr.allocSet | with_reducible apply Fr.alloc | with_reducible apply Fr.drewN | with_reducible apply Fr.drew | ((with_reducible apply Fr.set); rotate_left; (right; ((try simp only [alloc_size]); omega))) | (refine Fr.trans ?_ (by assumption))))); (case hy => (intro wf hwf; haveI := From.mk hwf; (((apply opv_loadbC); exact rfl; exact rfl; (first | assumption | infer_instance); (first | exact (rfl : _ = [_]) | exact (rfl : _ = [_, _]) | exact (rfl : _ = [_, _, _]) | exact (rfl : _ = [_, _, _, _]) | exact (rfl : _ = [_, _, _, _, _]) | exact (rfl : _ = [_, _, _, _, _, _]) | exact (rfl : _ = [_, _, _, _, _, _, _]) | exact (rfl : _ = [_, _, _, _, _, _, _, _]) | exact (rfl : _ = [_, _, _, _, _, _, _, _, _]) | exact (rfl : _ = [_, _, _, _, _, _, _, _, _, _]) | exact (rfl : _ = [_, _, _, _, _, _, _, _, _, _, _]) | exact (rfl : _ = [_, _, _, _, _, _, _, _, _, _, _, _])); exact rfl)))))
  ((apply (tk 3)); (case hi => exact rfl); (case hf => kernel_rfl); (case hS => (repeat (first | exact Fr.refl _ _ | assumption | with_reducible apply Fr.allocSet | with_reducible apply Fr.alloc | with_reducible apply Fr.drewN | with_reducible apply Fr.drew | ((with_reducible apply Fr.set); rotate_left; (right; ((try simp only [alloc_size]); omega))) | (refine Fr.trans ?_ (by assumption))))); (case hy => (intro wf hwf; exact opv_loadbC (cs := rqE r) rfl rfl (h3.frN hwf) rfl rfl)))
  (refine tkc 4 rfl (by kernel_rfl) (by (repeat (first | exact Fr.refl _ _ | assumption | with_reducible apply Fr.allocSet | with_reducible apply Fr.alloc | with_reducible apply Fr.drewN | with_reducible apply Fr.drew | ((with_reducible apply Fr.set); rotate_left; (right; ((try simp only [alloc_size]); omega))) | (refine Fr.trans ?_ (by assumption))))) rfl (of31 r _) rfl ?_)
  rintro _ w2 ⟨rfl, hf2⟩
  have hf12 : Fr No w1 w2 := (Fr.refl No w1).drew.trans hf2
  have hfd := find31 c r.topic r.part w2 (by rw [hss]; exact (ho1.frN hf12).rd) (by rw [hss]; exact Nat.zero_le _) (fun s hs => by rw [hss] at hs; cases hs)
  (refine tkc 5 rfl (by kernel_rfl) (by (repeat (first | exact Fr.refl _ _ | assumption | with_reducible apply Fr.allocSet | with_reducible apply Fr.alloc | with_reducible apply Fr.drewN | with_reducible apply Fr.drew | ((with_reducible apply Fr.set); rotate_left; (right; ((try simp only [alloc_size]); omega))) | (refine Fr.trans ?_ (by assumption))))) rfl (hfd) rfl ?_)
  rintro _ w3 ⟨rfl, hf3⟩
  have hf13 : Fr No w1 w3 := hf12.trans hf3
  ((apply (tk 6)); (case hi => exact rfl); (case hf => kernel_rfl); (case hS => (repeat (first | exact Fr.refl _ _ | assumption | with_reducible apply Fr.allocSet | with_reducible apply Fr.alloc | with_reducible apply Fr.drewN | with_reducible apply Fr.drew | ((with_reducible apply Fr.set); rotate_left; (right; ((try simp only [alloc_size]); omega))) | (refine Fr.trans ?_ (by assumption))))); (case hy => (intro wf hwf; haveI := From.mk hwf; (((apply opv_E); exact rfl)))))
  ((apply (tk 7)); (case hi => exact rfl); (case hf => kernel_rfl); (case hS => (repeat (first | exact Fr.refl _ _ | assumption | with_reducible apply Fr.allocSet | with_reducible apply Fr.alloc | with_reducible apply Fr.drewN | with_reducible apply Fr.drew | ((with_reducible apply Fr.set); rotate_left; (right; ((try simp only [alloc_size]); omega))) | (refine Fr.trans ?_ (by assumption))))); (case hy => (intro wf hwf; haveI := From.mk hwf; (((apply opv_E); exact rfl)))))
  ((apply (tk 8)); (case hi => exact rfl); (case hf => kernel_rfl); (case hS => (repeat (first | exact Fr.refl _ _ | assumption | with_reducible apply Fr.allocSet | with_reducible apply Fr.alloc | with_reducible apply Fr.drewN | with_reducible apply Fr.drew | ((with_reducible apply Fr.set); rotate_left; (right; ((try simp only [alloc_size]); omega))) | (refine Fr.trans ?_ (by assumption))))); (case hy => (intro wf hwf; haveI := From.mk hwf; (((apply opv_E); exact rfl)))))
  ((apply (tk 9)); (case hi => exact rfl); (case hf => kernel_rfl); (case hS => (repeat (first | exact Fr.refl _ _ | assumption | with_reducible apply Fr.allocSet | with_reducible apply Fr.alloc | with_reducible apply Fr.drewN | with_reducible apply Fr.drew | ((with_reducible apply Fr.set); rotate_left; (right; ((try simp only [alloc_size]); omega))) | (refine Fr.trans ?_ (by assumption))))); (case hy => (intro wf hwf; haveI := From.mk hwf; (((apply opv_E); exact rfl)))))
  ((apply (tk 10)); (case hi => exact rfl); (case hf => kernel_rfl); (case hS => (repeat (first | exact Fr.refl _ _ | assumption | with_reducible apply Fr.allocSet | with_reducible apply Fr.alloc | with_reducible apply Fr.drewN | with_reducible apply Fr.drew | ((with_reducible apply Fr.set); rotate_left; (right; ((try simp only [alloc_size]); omega))) | (refine Fr.trans ?_ (by assumption))))); (case hy => (intro wf hwf; haveI := From.mk hwf; (((apply opv_E); exact rfl)))))
  refine vA_done (by kernel_rfl) (by (first | exact trivial | ((repeat (first | exact Fr.refl _ _ | assumption | with_reducible apply Fr.allocSet | with_reducible apply Fr.alloc | with_reducible apply Fr.drewN | with_reducible apply Fr.drew | ((with_reducible apply Fr.set); rotate_left; (right; ((try simp only [alloc_size]); omega))) | (refine Fr.trans ?_ (by assumption)))); done))) ?_
  have hb3 := hb1.frN hf13
  have ho3 := ho1.frN hf13
  have h33 := h3.frN hf13
  have hfw3 := hf1.trans hf13
  have hsl : c.ss.length = 0 := by rw [hss]; rfl
  have hsz3 := hfw3.size
  rw [hsl]
  clear hb1 h3 hf12 hf13 hf2 hf3 hr1 hrb1
  (apply seqP_normal; apply vC_block; apply vC_seq; apply vC_region; (iterate 3 (((apply vL_val); (case h => ((apply opv_E); exact rfl))))); apply vL_nil; apply seqP_normal; (refine vC_cond_dec rfl (fun h => by omega) (fun _ => ?_)); apply vC_seq; apply vC_region; (iterate 2 (((apply vL_val); (case h => ((apply opv_E); exact rfl))))); apply vL_nil; apply seqP_normal; ((apply vC_cond_false); exact rfl); apply vC_seq; apply vC_region; (iterate 2 (((apply vL_val); (case h => ((apply opv_E); exact rfl))))); ((apply vL_val); (case h => ((apply opv_fieldAddr); exact rfl))); ((apply vL_val); (case h => ((apply opv_loadb1); exact rfl; exact rfl; (first | assumption | infer_instance); exact rfl))); ((apply vL_val); (case h => ((apply opv_len); (first | exact norm_eq rfl | ((conv => lhs; whnf) <;> exact rfl)); (first | assumption | infer_instance)))); (iterate 2 (((apply vL_val); (case h => ((apply opv_E); exact rfl))))); apply vL_nil; apply seqP_normal; ((apply vC_cond_true); exact rfl))
  have hb3d := hb3.frN (Fr.refl No w3).drew
  have h33d := h33.frN (Fr.refl No w3).drew
  refine vC_draw' ((fun wf => Blk wf.heap b3 (rqE r) 40)) (by (first | exact trivial | assumption | infer_instance | ((repeat (first | exact Fr.refl _ _ | assumption | with_reducible apply Fr.allocSet | with_reducible apply Fr.alloc | with_reducible apply Fr.drewN | with_reducible apply Fr.drew | ((with_reducible apply Fr.set); rotate_left; (right; ((try simp only [alloc_size]); omega))) | (refine Fr.trans ?_ (by assumption)))); done))) ?_
  ((apply (tk 0)); (case hi => exact rfl); (case hf => kernel_rfl); (case hS => (first | exact trivial | assumption | infer_instance | ((repeat (first | exact Fr.refl _ _ | assumption | with_reducible apply Fr.allocSet | with_reducible apply Fr.alloc | with_reducible apply Fr.drewN | with_reducible apply Fr.drew | ((with_reducible apply Fr.set); rotate_left; (right; ((try simp only [alloc_size]); omega))) | (refine Fr.trans ?_ (by assumption)))); done))); (case hy => (intro wf hwf; (try dsimp only at hwf); (((apply opv_E); exact rfl)))))
  ((apply (tk 1)); (case hi => exact rfl); (case hf => kernel_rfl); (case hS => (first | exact trivial | assumption | infer_instance | ((repeat (first | exact Fr.refl _ _ | assumption | with_reducible apply Fr.allocSet | with_reducible apply Fr.alloc | with_reducible apply Fr.drewN | with_reducible apply Fr.drew | ((with_reducible apply Fr.set); rotate_left; (right; ((try simp only [alloc_size]); omega))) | (refine Fr.trans ?_ (by assumption)))); done))); (case hy => (intro wf hwf; (try dsimp only at hwf); (((apply opv_E); exact rfl)))))
  ((apply (tk 2)); (case hi => exact rfl); (case hf => kernel_rfl); (case hS => (first | exact trivial | assumption | infer_instance | ((repeat (first | exact Fr.refl _ _ | assumption | with_reducible apply Fr.allocSet | with_reducible apply Fr.alloc | with_reducible apply Fr.drewN | with_reducible apply Fr.drew | ((with_reducible apply Fr.set); rotate_left; (right; ((try simp only [alloc_size]); omega))) | (refine Fr.trans ?_ (by assumption)))); done))); (case hy => (intro wf hwf; (try dsimp only at hwf); (((apply opv_E); exact rfl)))))
  ((apply (tk 3)); (case hi => exact rfl); (case hf => kernel_rfl); (case hS => (first | exact trivial | assumption | infer_instance | ((repeat (first | exact Fr.refl _ _ | assumption | with_reducible apply Fr.allocSet | with_reducible apply Fr.alloc | with_reducible apply Fr.drewN | with_reducible apply Fr.drew | ((with_reducible apply Fr.set); rotate_left; (right; ((try simp only [alloc_size]); omega))) | (refine Fr.trans ?_ (by assumption)))); done))); (case hy => (intro wf hwf; (try dsimp only at hwf); (((apply opv_fieldAddr); exact rfl)))))
  ((apply (tk 5)); (case hi => exact rfl); (case hf => kernel_rfl); (case hS => (first | exact trivial | assumption | infer_instance | ((repeat (first | exact Fr.refl _ _ | assumption | with_reducible apply Fr.allocSet | with_reducible apply Fr.alloc | with_reducible apply Fr.drewN | with_reducible apply Fr.drew | ((with_reducible apply Fr.set); rotate_left; (right; ((try simp only [alloc_size]); omega))) | (refine Fr.trans ?_ (by assumption)))); done))); (case hy => (intro wf hwf; (try dsimp only at hwf); (((apply opv_E); exact rfl)))))
  ((apply (tk 8)); (case hi => exact rfl); (case hf => kernel_rfl); (case hS => (first | exact trivial | assumption | infer_instance | ((repeat (first | exact Fr.refl _ _ | assumption | with_reducible apply Fr.allocSet | with_reducible apply Fr.alloc | with_reducible apply Fr.drewN | with_reducible apply Fr.drew | ((with_reducible apply Fr.set); rotate_left; (right; ((try simp only [alloc_size]); omega))) | (refine Fr.trans ?_ (by assumption)))); done))); (case hy => (intro wf hwf; (try dsimp only at hwf); (((apply opv_E); exact rfl)))))
  ((apply (tk 6)); (case hi => exact rfl); (case hf => kernel_rfl); (case hS => (first | exact trivial | assumption | infer_instance | ((repeat (first | exact Fr.refl _ _ | assumption | with_reducible apply Fr.allocSet | with_reducible apply Fr.alloc | with_reducible apply Fr.drewN | with_reducible apply Fr.drew | ((with_reducible apply Fr.set); rotate_left; (right; ((try simp only [alloc_size]); omega))) | (refine Fr.trans ?_ (by assumption)))); done))); (case hy => (intro wf hwf; exact opv_loadbC (cs := rqE r) rfl rfl hwf rfl rfl)))
  have hof : ∀ w4, Fr No w3.drew w4 → Own w4.heap 65 3 sqE c.sv.1 [] := fun w4 h => (ho3.frN (Fr.refl No w3).drew).frN h
  refine vA_two 4 7 rfl rfl (by kernel_rfl) (by (first | exact trivial | assumption | infer_instance | ((repeat (first | exact Fr.refl _ _ | assumption | with_reducible apply Fr.allocSet | with_reducible apply Fr.alloc | with_reducible apply Fr.drewN | with_reducible apply Fr.drew | ((with_reducible apply Fr.set); rotate_left; (right; ((try simp only [alloc_size]); omega))) | (refine Fr.trans ?_ (by assumption)))); done))) (fun K hK => ?_) (fun K hK => ?_)
  · (((apply vL_val); (case h => ((apply opv_loadb1); exact rfl; exact rfl; (first | assumption | infer_instance); exact rfl))); apply vL_nil)
    refine ⟨rfl, hK _ _ ?_⟩
    refine vA_only 7 rfl (by kernel_rfl) (by (first | exact trivial | assumption | infer_instance | ((repeat (first | exact Fr.refl _ _ | assumption | with_reducible apply Fr.allocSet | with_reducible apply Fr.alloc | with_reducible apply Fr.drewN | with_reducible apply Fr.drew | ((with_reducible apply Fr.set); rotate_left; (right; ((try simp only [alloc_size]); omega))) | (refine Fr.trans ?_ (by assumption)))); done))) (fun K hK => ?_)
    refine vL_callF rfl (of31 r _) rfl ?_
    rintro _ w4 ⟨rfl, hf4⟩
    have hb4 := hb3d.frN hf4
    have h34 := h33d.frN hf4
    refine vL_nil ⟨rfl, hK _ _ ?_⟩
    ((apply (tk 9)); (case hi => exact rfl); (case hf => kernel_rfl); (case hS => (first | exact trivial | assumption | infer_instance | ((repeat (first | exact Fr.refl _ _ | assumption | with_reducible apply Fr.allocSet | with_reducible apply Fr.alloc | with_reducible apply Fr.drewN | with_reducible apply Fr.drew | ((with_reducible apply Fr.set); rotate_left; (right; ((try simp only [alloc_size]); omega))) | (refine Fr.trans ?_ (by assumption)))); done))); (case hy => (intro wf hwf; (try dsimp only at hwf); (((apply opv_buildS); exact rfl; (first | exact (rfl : _ = some []) | exact (rfl : _ = some [_]) | exact (rfl : _ = some [_, _]) | exact (rfl : _ = some [_, _, _]) | exact (rfl : _ = some [_, _, _, _]) | exact (rfl : _ = some [_, _, _, _, _]) | exact (rfl : _ = some [_, _, _, _, _, _]) | exact (rfl : _ = some [_, _, _, _, _, _, _]) | exact (rfl : _ = some [_, _, _, _, _, _, _, _]) | exact (rfl : _ = some [_, _, _, _, _, _, _, _, _]) | exact (rfl : _ = some [_, _, _, _, _, _, _, _, _, _]) | exact (rfl : _ = some [_, _, _, _, _, _, _, _, _, _, _]) | exact (rfl : _ = some [_, _, _, _, _, _, _, _, _, _, _, _]) | exact (rfl : _ = some [_, _, _, _, _, _, _, _, _, _, _, _, _]) | exact (rfl : _ = some [_, _, _, _, _, _, _, _, _, _, _, _, _, _]) | exact (rfl : _ = some [_, _, _, _, _, _, _, _, _, _, _, _, _, _, _]) | exact (rfl : _ = some [_, _, _, _, _, _, _, _, _, _, _, _, _, _, _, _]) | exact (rfl : _ = some [_, _, _, _, _, _, _, _, _, _, _, _, _, _, _, _, _, _, _, _, _, _, _]) | exact (rfl : _ = some [_, _, _, _, _, _, _, _, _, _, _, _, _, _, _, _, _, _, _, _, _, _, _, _]) | exact (rfl : _ = some [_, _, _, _, _, _, _, _, _, _, _, _, _, _, _, _, _, _, _, _, _, _, _, _, _, _]) | exact (rfl : _ = some [_, _, _, _, _, _, _, _, _, _, _, _, _, _, _, _, _, _])))))))
    refine vA_only 10 rfl (by kernel_rfl) (by (first | exact trivial | assumption | infer_instance | ((repeat (first | exact Fr.refl _ _ | assumption | with_reducible apply Fr.allocSet | with_reducible apply Fr.alloc | with_reducible apply Fr.drewN | with_reducible apply Fr.drew | ((with_reducible apply Fr.set); rotate_left; (right; ((try simp only [alloc_size]); omega))) | (refine Fr.trans ?_ (by assumption)))); done))) (fun K hK => ?_)
    (((apply vL_val); (case h => ((apply opw_buildSl); exact rfl; exact rfl; exact rfl; (first | exact (rfl : _ = some []) | exact (rfl : _ = some [_]) | exact (rfl : _ = some [_, _]) | exact (rfl : _ = some [_, _, _]) | exact (rfl : _ = some [_, _, _, _]) | exact (rfl : _ = some [_, _, _, _, _]) | exact (rfl : _ = some [_, _, _, _, _, _]) | exact (rfl : _ = some [_, _, _, _, _, _, _]) | exact (rfl : _ = some [_, _, _, _, _, _, _, _]) | exact (rfl : _ = some [_, _, _, _, _, _, _, _, _]) | exact (rfl : _ = some [_, _, _, _, _, _, _, _, _, _]) | exact (rfl : _ = some [_, _, _, _, _, _, _, _, _, _, _]) | exact (rfl : _ = some [_, _, _, _, _, _, _, _, _, _, _, _]) | exact (rfl : _ = some [_, _, _, _, _, _, _, _, _, _, _, _, _]) | exact (rfl : _ = some [_, _, _, _, _, _, _, _, _, _, _, _, _, _]) | exact (rfl : _ = some [_, _, _, _, _, _, _, _, _, _, _, _, _, _, _]) | exact (rfl : _ = some [_, _, _, _, _, _, _, _, _, _, _, _, _, _, _, _]) | exact (rfl : _ = some [_, _, _, _, _, _, _, _, _, _, _, _, _, _, _, _, _, _, _, _, _, _, _]) | exact (rfl : _ = some [_, _, _, _, _, _, _, _, _, _, _, _, _, _, _, _, _, _, _, _, _, _, _, _]) | exact (rfl : _ = some [_, _, _, _, _, _, _, _, _, _, _, _, _, _, _, _, _, _, _, _, _, _, _, _, _, _]) | exact (rfl : _ = some [_, _, _, _, _, _, _, _, _, _, _, _, _, _, _, _, _, _]))))); apply vL_nil)
    refine ⟨rfl, hK _ _ ?_⟩
    have hwr : Rd (w4.alloc (.cells (sqE ⟨r.topic, r.part, r.fi + r.brs.length⟩).toArray 65)).heap 3 sqE (.slice (some ⟨w4.heap.size, 0, none⟩) 1 1) [(⟨r.topic, r.part, r.fi + r.brs.length⟩ : SQ)] := (Own.newN (T := 65) sqE [(⟨r.topic, r.part, r.fi + r.brs.length⟩ : SQ)] rfl rfl (by simp [maxLen])).rd
    have hal : Fr No w4 (w4.alloc (.cells (sqE ⟨r.topic, r.part, r.fi + r.brs.length⟩).toArray 65)) := (Fr.refl No w4).alloc _
    have ho4 := hof _ (hf4.trans hal)
    have hb5 := hb4.frN hal
    have h35 := h34.frN hal
    refine vA_only 11 rfl (by kernel_rfl) (by (first | exact trivial | assumption | infer_instance | ((repeat (first | exact Fr.refl _ _ | assumption | with_reducible apply Fr.allocSet | with_reducible apply Fr.alloc | with_reducible apply Fr.drewN | with_reducible apply Fr.drew | ((with_reducible apply Fr.set); rotate_left; (right; ((try simp only [alloc_size]); omega))) | (refine Fr.trans ?_ (by assumption)))); done))) (fun K hK => ?_)
    refine vL_callF rfl (insq31 c.sv.1 (⟨r.topic, r.part, r.fi + r.brs.length⟩ : SQ) _ ho4 hwr) rfl ?_
    rintro u5 w5 ⟨ho5, hf5, hfr5, hone5⟩
    have hb6 := hb5.fr hf5 (fun h => Own.ne_blk ho4 hb5 (by decide) h)
    have h36 := h35.fr hf5 (fun h => Own.ne_blk ho4 h35 (by decide) h)
    refine vL_nil ⟨rfl, hK _ _ ?_⟩
    ((apply (tk 12)); (case hi => exact rfl); (case hf => kernel_rfl); (case hS => (first | exact trivial | assumption | infer_instance | ((repeat (first | exact Fr.refl _ _ | assumption | with_reducible apply Fr.allocSet | with_reducible apply Fr.alloc | with_reducible apply Fr.drewN | with_reducible apply Fr.drew | ((with_reducible apply Fr.set); rotate_left; (right; ((try simp only [alloc_size]); omega))) | (refine Fr.trans ?_ (by assumption)))); done))); (case hy => (intro wf hwf; (try dsimp only at hwf); (((apply opv_E); exact rfl)))))
    ((apply (tk 13)); (case hi => exact rfl); (case hf => kernel_rfl); (case hS => (first | exact trivial | assumption | infer_instance | ((repeat (first | exact Fr.refl _ _ | assumption | with_reducible apply Fr.allocSet | with_reducible apply Fr.alloc | with_reducible apply Fr.drewN | with_reducible apply Fr.drew | ((with_reducible apply Fr.set); rotate_left; (right; ((try simp only [alloc_size]); omega))) | (refine Fr.trans ?_ (by assumption)))); done))); (case hy => (intro wf hwf; (try dsimp only at hwf); (((apply opv_fieldAddr); exact rfl)))))
    refine vA_only 14 rfl (by kernel_rfl) (by (first | exact trivial | assumption | infer_instance | ((repeat (first | exact Fr.refl _ _ | assumption | with_reducible apply Fr.allocSet | with_reducible apply Fr.alloc | with_reducible apply Fr.drewN | with_reducible apply Fr.drew | ((with_reducible apply Fr.set); rotate_left; (right; ((try simp only [alloc_size]); omega))) | (refine Fr.trans ?_ (by assumption)))); done))) (fun K hK => ?_)
    (((apply vL_skip); (case h => ((apply ops_store1); (first | exact norm_eq rfl | ((conv => lhs; whnf) <;> exact rfl)); (first | exact norm_eq rfl | ((conv => lhs; whnf) <;> exact rfl)); (first | rfl | assumption); (first | assumption | infer_instance); (first | decide | exact of_decide_eq_true rfl | (simp; done))))); apply vL_nil)
    refine ⟨rfl, hK _ _ ?_⟩
    refine vA_done (by kernel_rfl) (by (first | exact trivial | assumption | infer_instance | ((repeat (first | exact Fr.refl _ _ | assumption | with_reducible apply Fr.allocSet | with_reducible apply Fr.alloc | with_reducible apply Fr.drewN | with_reducible apply Fr.drew | ((with_reducible apply Fr.set); rotate_left; (right; ((try simp only [alloc_size]); omega))) | (refine Fr.trans ?_ (by assumption)))); done))) ?_
    (apply blockP_normal)
    (first | apply ret0 | apply ret0n)
    have hfa : Fr No w _ := ((hfw3.drew).trans hf4).trans hal
    have hs4 := hf4.size
    have hsd : w3.heap.size ≤ w3.drew.heap.size := Nat.le_refl _
    refine ⟨rfl, ⟨u5, hone5⟩, Blk.as (Blk.set hb6) rfl, ho5.set (Own.ne_blk ho5 hb6 (by decide)), (hfa.no_any.trans' hf5 (fun k hk => .inl (.inr hk))).set _ _ (.inl (.inl rfl)), fun b hb => ?_⟩
    rcases hfr5 b hb with h | h
    · exact .inl h
    · rw [alloc_size] at h; exact .inr (by omega)
  · refine vL_callF rfl (of31 r _) rfl ?_
    rintro _ w4 ⟨rfl, hf4⟩
    have hb4 := hb3d.frN hf4
    have h34 := h33d.frN hf4
    refine vL_nil ⟨rfl, hK _ _ ?_⟩
    ((apply (tk 9)); (case hi => exact rfl); (case hf => kernel_rfl); (case hS => (first | exact trivial | assumption | infer_instance | ((repeat (first | exact Fr.refl _ _ | assumption | with_reducible apply Fr.allocSet | with_reducible apply Fr.alloc | with_reducible apply Fr.drewN | with_reducible apply Fr.drew | ((with_reducible apply Fr.set); rotate_left; (right; ((try simp only [alloc_size]); omega))) | (refine Fr.trans ?_ (by assumption)))); done))); (case hy => (intro wf hwf; (try dsimp only at hwf); (((apply opv_buildS); exact rfl; (first | exact (rfl : _ = some []) | exact (rfl : _ = some [_]) | exact (rfl : _ = some [_, _]) | exact (rfl : _ = some [_, _, _]) | exact (rfl : _ = some [_, _, _, _]) | exact (rfl : _ = some [_, _, _, _, _]) | exact (rfl : _ = some [_, _, _, _, _, _]) | exact (rfl : _ = some [_, _, _, _, _, _, _]) | exact (rfl : _ = some [_, _, _, _, _, _, _, _]) | exact (rfl : _ = some [_, _, _, _, _, _, _, _, _]) | exact (rfl : _ = some [_, _, _, _, _, _, _, _, _, _]) | exact (rfl : _ = some [_, _, _, _, _, _, _, _, _, _, _]) | exact (rfl : _ = some [_, _, _, _, _, _, _, _, _, _, _, _]) | exact (rfl : _ = some [_, _, _, _, _, _, _, _, _, _, _, _, _]) | exact (rfl : _ = some [_, _, _, _, _, _, _, _, _, _, _, _, _, _]) | exact (rfl : _ = some [_, _, _, _, _, _, _, _, _, _, _, _, _, _, _]) | exact (rfl : _ = some [_, _, _, _, _, _, _, _, _, _, _, _, _, _, _, _]) | exact (rfl : _ = some [_, _, _, _, _, _, _, _, _, _, _, _, _, _, _, _, _, _, _, _, _, _, _]) | exact (rfl : _ = some [_, _, _, _, _, _, _, _, _, _, _, _, _, _, _, _, _, _, _, _, _, _, _, _]) | exact (rfl : _ = some [_, _, _, _, _, _, _, _, _, _, _, _, _, _, _, _, _, _, _, _, _, _, _, _, _, _]) | exact (rfl : _ = some [_, _, _, _, _, _, _, _, _, _, _, _, _, _, _, _, _, _])))))))
    refine vA_two 4 10 rfl rfl (by kernel_rfl) (by (first | exact trivial | assumption | infer_instance | ((repeat (first | exact Fr.refl _ _ | assumption | with_reducible apply Fr.allocSet | with_reducible apply Fr.alloc | with_reducible apply Fr.drewN | with_reducible apply Fr.drew | ((with_reducible apply Fr.set); rotate_left; (right; ((try simp only [alloc_size]); omega))) | (refine Fr.trans ?_ (by assumption)))); done))) (fun K hK => ?_) (fun K hK => ?_)
    · (((apply vL_val); (case h => ((apply opv_loadb1); exact rfl; exact rfl; (first | assumption | infer_instance); exact rfl))); apply vL_nil)
      refine ⟨rfl, hK _ _ ?_⟩
      refine vA_only 10 rfl (by kernel_rfl) (by (first | exact trivial | assumption | infer_instance | ((repeat (first | exact Fr.refl _ _ | assumption | with_reducible apply Fr.allocSet | with_reducible apply Fr.alloc | with_reducible apply Fr.drewN | with_reducible apply Fr.drew | ((with_reducible apply Fr.set); rotate_left; (right; ((try simp only [alloc_size]); omega))) | (refine Fr.trans ?_ (by assumption)))); done))) (fun K hK => ?_)
      (((apply vL_val); (case h => ((apply opw_buildSl); exact rfl; exact rfl; exact rfl; (first | exact (rfl : _ = some []) | exact (rfl : _ = some [_]) | exact (rfl : _ = some [_, _]) | exact (rfl : _ = some [_, _, _]) | exact (rfl : _ = some [_, _, _, _]) | exact (rfl : _ = some [_, _, _, _, _]) | exact (rfl : _ = some [_, _, _, _, _, _]) | exact (rfl : _ = some [_, _, _, _, _, _, _]) | exact (rfl : _ = some [_, _, _, _, _, _, _, _]) | exact (rfl : _ = some [_, _, _, _, _, _, _, _, _]) | exact (rfl : _ = some [_, _, _, _, _, _, _, _, _, _]) | exact (rfl : _ = some [_, _, _, _, _, _, _, _, _, _, _]) | exact (rfl : _ = some [_, _, _, _, _, _, _, _, _, _, _, _]) | exact (rfl : _ = some [_, _, _, _, _, _, _, _, _, _, _, _, _]) | exact (rfl : _ = some [_, _, _, _, _, _, _, _, _, _, _, _, _, _]) | exact (rfl : _ = some [_, _, _, _, _, _, _, _, _, _, _, _, _, _, _]) | exact (rfl : _ = some [_, _, _, _, _, _, _, _, _, _, _, _, _, _, _, _]) | exact (rfl : _ = some [_, _, _, _, _, _, _, _, _, _, _, _, _, _, _, _, _, _, _, _, _, _, _]) | exact (rfl : _ = some [_, _, _, _, _, _, _, _, _, _, _, _, _, _, _, _, _, _, _, _, _, _, _, _]) | exact (rfl : _ = some [_, _, _, _, _, _, _, _, _, _, _, _, _, _, _, _, _, _, _, _, _, _, _, _, _, _]) | exact (rfl : _ = some [_, _, _, _, _, _, _, _, _, _, _, _, _, _, _, _, _, _]))))); apply vL_nil)
      refine ⟨rfl, hK _ _ ?_⟩
      have hwr : Rd (w4.alloc (.cells (sqE ⟨r.topic, r.part, r.fi + r.brs.length⟩).toArray 65)).heap 3 sqE (.slice (some ⟨w4.heap.size, 0, none⟩) 1 1) [(⟨r.topic, r.part, r.fi + r.brs.length⟩ : SQ)] := (Own.newN (T := 65) sqE [(⟨r.topic, r.part, r.fi + r.brs.length⟩ : SQ)] rfl rfl (by simp [maxLen])).rd
      have hal : Fr No w4 (w4.alloc (.cells (sqE ⟨r.topic, r.part, r.fi + r.brs.length⟩).toArray 65)) := (Fr.refl No w4).alloc _
      have ho4 := hof _ (hf4.trans hal)
      have hb5 := hb4.frN hal
      have h35 := h34.frN hal
      refine vA_only 11 rfl (by kernel_rfl) (by (first | exact trivial | assumption | infer_instance | ((repeat (first | exact Fr.refl _ _ | assumption | with_reducible apply Fr.allocSet | with_reducible apply Fr.alloc | with_reducible apply Fr.drewN | with_reducible apply Fr.drew | ((with_reducible apply Fr.set); rotate_left; (right; ((try simp only [alloc_size]); omega))) | (refine Fr.trans ?_ (by assumption)))); done))) (fun K hK => ?_)
      refine vL_callF rfl (insq31 c.sv.1 (⟨r.topic, r.part, r.fi + r.brs.length⟩ : SQ) _ ho4 hwr) rfl ?_
      rintro u5 w5 ⟨ho5, hf5, hfr5, hone5⟩
      have hb6 := hb5.fr hf5 (fun h => Own.ne_blk ho4 hb5 (by decide) h)
      have h36 := h35.fr hf5 (fun h => Own.ne_blk ho4 h35 (by decide) h)
      refine vL_nil ⟨rfl, hK _ _ ?_⟩
      ((apply (tk 12)); (case hi => exact rfl); (case hf => kernel_rfl); (case hS => (first | exact trivial | assumption | infer_instance | ((repeat (first | exact Fr.refl _ _ | assumption | with_reducible apply Fr.allocSet | with_reducible apply Fr.alloc | with_reducible apply Fr.drewN | with_reducible apply Fr.drew | ((with_reducible apply Fr.set); rotate_left; (right; ((try simp only [alloc_size]); omega))) | (refine Fr.trans ?_ (by assumption)))); done))); (case hy => (intro wf hwf; (try dsimp only at hwf); (((apply opv_E); exact rfl)))))
      ((apply (tk 13)); (case hi => exact rfl); (case hf => kernel_rfl); (case hS => (first | exact trivial | assumption | infer_instance | ((repeat (first | exact Fr.refl _ _ | assumption | with_reducible apply Fr.allocSet | with_reducible apply Fr.alloc | with_reducible apply Fr.drewN | with_reducible apply Fr.drew | ((with_reducible apply Fr.set); rotate_left; (right; ((try simp only [alloc_size]); omega))) | (refine Fr.trans ?_ (by assumption)))); done))); (case hy => (intro wf hwf; (try dsimp only at hwf); (((apply opv_fieldAddr); exact rfl)))))
      refine vA_only 14 rfl (by kernel_rfl) (by (first | exact trivial | assumption | infer_instance | ((repeat (first | exact Fr.refl _ _ | assumption | with_reducible apply Fr.allocSet | with_reducible apply Fr.alloc | with_reducible apply Fr.drewN | with_reducible apply Fr.drew | ((with_reducible apply Fr.set); rotate_left; (right; ((try simp only [alloc_size]); omega))) | (refine Fr.trans ?_ (by assumption)))); done))) (fun K hK => ?_)
      (((apply vL_skip); (case h => ((apply ops_store1); (first | exact norm_eq rfl | ((conv => lhs; whnf) <;> exact rfl)); (first | exact norm_eq rfl | ((conv => lhs; whnf) <;> exact rfl)); (first | rfl | assumption); (first | assumption | infer_instance); (first | decide | exact of_decide_eq_true rfl | (simp; done))))); apply vL_nil)
      refine ⟨rfl, hK _ _ ?_⟩
      refine vA_done (by kernel_rfl) (by (first | exact trivial | assumption | infer_instance | ((repeat (first | exact Fr.refl _ _ | assumption | with_reducible apply Fr.allocSet | with_reducible apply Fr.alloc | with_reducible apply Fr.drewN | with_reducible apply Fr.drew | ((with_reducible apply Fr.set); rotate_left; (right; ((try simp only [alloc_size]); omega))) | (refine Fr.trans ?_ (by assumption)))); done))) ?_
      (apply blockP_normal)
      (first | apply ret0 | apply ret0n)
      have hfa : Fr No w _ := ((hfw3.drew).trans hf4).trans hal
      have hs4 := hf4.size
      have hsd : w3.heap.size ≤ w3.drew.heap.size := Nat.le_refl _
      refine ⟨rfl, ⟨u5, hone5⟩, Blk.as (Blk.set hb6) rfl, ho5.set (Own.ne_blk ho5 hb6 (by decide)), (hfa.no_any.trans' hf5 (fun k hk => .inl (.inr hk))).set _ _ (.inl (.inl rfl)), fun b hb => ?_⟩
      rcases hfr5 b hb with h | h
      · exact .inl h
      · rw [alloc_size] at h; exact .inr (by omega)
    · (((apply vL_val); (case h => ((apply opw_buildSl); exact rfl; exact rfl; exact rfl; (first | exact (rfl : _ = some []) | exact (rfl : _ = some [_]) | exact (rfl : _ = some [_, _]) | exact (rfl : _ = some [_, _, _]) | exact (rfl : _ = some [_, _, _, _]) | exact (rfl : _ = some [_, _, _, _, _]) | exact (rfl : _ = some [_, _, _, _, _, _]) | exact (rfl : _ = some [_, _, _, _, _, _, _]) | exact (rfl : _ = some [_, _, _, _, _, _, _, _]) | exact (rfl : _ = some [_, _, _, _, _, _, _, _, _]) | exact (rfl : _ = some [_, _, _, _, _, _, _, _, _, _]) | exact (rfl : _ = some [_, _, _, _, _, _, _, _, _, _, _]) | exact (rfl : _ = some [_, _, _, _, _, _, _, _, _, _, _, _]) | exact (rfl : _ = some [_, _, _, _, _, _, _, _, _, _, _, _, _]) | exact (rfl : _ = some [_, _, _, _, _, _, _, _, _, _, _, _, _, _]) | exact (rfl : _ = some [_, _, _, _, _, _, _, _, _, _, _, _, _, _, _]) | exact (rfl : _ = some [_, _, _, _, _, _, _, _, _, _, _, _, _, _, _, _]) | exact (rfl : _ = some [_, _, _, _, _, _, _, _, _, _, _, _, _, _, _, _, _, _, _, _, _, _, _]) | exact (rfl : _ = some [_, _, _, _, _, _, _, _, _, _, _, _, _, _, _, _, _, _, _, _, _, _, _, _]) | exact (rfl : _ = some [_, _, _, _, _, _, _, _, _, _, _, _, _, _, _, _, _, _, _, _, _, _, _, _, _, _]) | exact (rfl : _ = some [_, _, _, _, _, _, _, _, _, _, _, _, _, _, _, _, _, _]))))); apply vL_nil)
      refine ⟨rfl, hK _ _ ?_⟩
      refine vA_only 4 rfl (by kernel_rfl) (by (first | exact trivial | assumption | infer_instance | ((repeat (first | exact Fr.refl _ _ | assumption | with_reducible apply Fr.allocSet | with_reducible apply Fr.alloc | with_reducible apply Fr.drewN | with_reducible apply Fr.drew | ((with_reducible apply Fr.set); rotate_left; (right; ((try simp only [alloc_size]); omega))) | (refine Fr.trans ?_ (by assumption)))); done))) (fun K hK => ?_)
      (((apply vL_val); (case h => ((apply opv_loadb1); exact rfl; exact rfl; (first | assumption | infer_instance); exact rfl))); apply vL_nil)
      refine ⟨rfl, hK _ _ ?_⟩
      have hwr : Rd (w4.alloc (.cells (sqE ⟨r.topic, r.part, r.fi + r.brs.length⟩).toArray 65)).heap 3 sqE (.slice (some ⟨w4.heap.size, 0, none⟩) 1 1) [(⟨r.topic, r.part, r.fi + r.brs.length⟩ : SQ)] := (Own.newN (T := 65) sqE [(⟨r.topic, r.part, r.fi + r.brs.length⟩ : SQ)] rfl rfl (by simp [maxLen])).rd
      have hal : Fr No w4 (w4.alloc (.cells (sqE ⟨r.topic, r.part, r.fi + r.brs.length⟩).toArray 65)) := (Fr.refl No w4).alloc _
      have ho4 := hof _ (hf4.trans hal)
      have hb5 := hb4.frN hal
      have h35 := h34.frN hal
      refine vA_only 11 rfl (by kernel_rfl) (by (first | exact trivial | assumption | infer_instance | ((repeat (first | exact Fr.refl _ _ | assumption | with_reducible apply Fr.allocSet | with_reducible apply Fr.alloc | with_reducible apply Fr.drewN | with_reducible apply Fr.drew | ((with_reducible apply Fr.set); rotate_left; (right; ((try simp only [alloc_size]); omega))) | (refine Fr.trans ?_ (by assumption)))); done))) (fun K hK => ?_)
      refine vL_callF rfl (insq31 c.sv.1 (⟨r.topic, r.part, r.fi + r.brs.length⟩ : SQ) _ ho4 hwr) rfl ?_
      rintro u5 w5 ⟨ho5, hf5, hfr5, hone5⟩
      have hb6 := hb5.fr hf5 (fun h => Own.ne_blk ho4 hb5 (by decide) h)
      have h36 := h35.fr hf5 (fun h => Own.ne_blk ho4 h35 (by decide) h)
      refine vL_nil ⟨rfl, hK _ _ ?_⟩
      ((apply (tk 12)); (case hi => exact rfl); (case hf => kernel_rfl); (case hS => (first | exact trivial | assumption | infer_instance | ((repeat (first | exact Fr.refl _ _ | assumption | with_reducible apply Fr.allocSet | with_reducible apply Fr.alloc | with_reducible apply Fr.drewN | with_reducible apply Fr.drew | ((with_reducible apply Fr.set); rotate_left; (right; ((try simp only [alloc_size]); omega))) | (refine Fr.trans ?_ (by assumption)))); done))); (case hy => (intro wf hwf; (try dsimp only at hwf); (((apply opv_E); exact rfl)))))
      ((apply (tk 13)); (case hi => exact rfl); (case hf => kernel_rfl); (case hS => (first | exact trivial | assumption | infer_instance | ((repeat (first | exact Fr.refl _ _ | assumption | with_reducible apply Fr.allocSet | with_reducible apply Fr.alloc | with_reducible apply Fr.drewN | with_reducible apply Fr.drew | ((with_reducible apply Fr.set); rotate_left; (right; ((try simp only [alloc_size]); omega))) | (refine Fr.trans ?_ (by assumption)))); done))); (case hy => (intro wf hwf; (try dsimp only at hwf); (((apply opv_fieldAddr); exact rfl)))))
      refine vA_only 14 rfl (by kernel_rfl) (by (first | exact trivial | assumption | infer_instance | ((repeat (first | exact Fr.refl _ _ | assumption | with_reducible apply Fr.allocSet | with_reducible apply Fr.alloc | with_reducible apply Fr.drewN | with_reducible apply Fr.drew | ((with_reducible apply Fr.set); rotate_left; (right; ((try simp only [alloc_size]); omega))) | (refine Fr.trans ?_ (by assumption)))); done))) (fun K hK => ?_)
      (((apply vL_skip); (case h => ((apply ops_store1); (first | exact norm_eq rfl | ((conv => lhs; whnf) <;> exact rfl)); (first | exact norm_eq rfl | ((conv => lhs; whnf) <;> exact rfl)); (first | rfl | assumption); (first | assumption | infer_instance); (first | decide | exact of_decide_eq_true rfl | (simp; done))))); apply vL_nil)
      refine ⟨rfl, hK _ _ ?_⟩
      refine vA_done (by kernel_rfl) (by (first | exact trivial | assumption | infer_instance | ((repeat (first | exact Fr.refl _ _ | assumption | with_reducible apply Fr.allocSet | with_reducible apply Fr.alloc | with_reducible apply Fr.drewN | with_reducible apply Fr.drew | ((with_reducible apply Fr.set); rotate_left; (right; ((try simp only [alloc_size]); omega))) | (refine Fr.trans ?_ (by assumption)))); done))) ?_
      (apply blockP_normal)
      (first | apply ret0 | apply ret0n)
      have hfa : Fr No w _ := ((hfw3.drew).trans hf4).trans hal
      have hs4 := hf4.size
      have hsd : w3.heap.size ≤ w3.drew.heap.size := Nat.le_refl _
      refine ⟨rfl, ⟨u5, hone5⟩, Blk.as (Blk.set hb6) rfl, ho5.set (Own.ne_blk ho5 hb6 (by decide)), (hfa.no_any.trans' hf5 (fun k hk => .inl (.inr hk))).set _ _ (.inl (.inl rfl)), fun b hb => ?_⟩
      rcases hfr5 b hb with h | h
      · exact .inl h
      · rw [alloc_size] at h; exact .inr (by omega)
end Go.Proofs.Ytchfaeaagpemlaa
