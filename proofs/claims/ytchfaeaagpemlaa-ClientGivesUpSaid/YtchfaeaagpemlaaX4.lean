/- Layer 31: opening clients and answers.
Layer 31: places compared, waits at a place, of any clients.
Layer 31: waits, of any clients. -/
import Derived.Test.YtchfaeaagpemlaaX3
import Derived.Test.YtchfaeaagpemlaaEo
import Derived.Test.YtchfaeaagpemlaaRows
import Derived.OpenShut
import Derived.ChangeSame
import Derived.Deep.Strs
import Derived.Lib.SmallJoins
set_option maxRecDepth 100000
namespace Go.Proofs.Ytchfaeaagpemlaa
open Go Go.Eng Go.ChangeShapes Go.WideShapes Go.ChangeAt Go.RowKit
theorem own_knob : ownKnob Try.prog.godebug = none := by kernel_rfl
theorem laid_out : laidOutB Try.prog = true := by kernel_rfl
theorem c_int : Try.prog.cellsOf 3 = 1 := by kernel_rfl
theorem c_i64 : Try.prog.cellsOf 2 = 1 := by kernel_rfl
theorem c_rk : Try.prog.cellsOf 29 = 1 := by kernel_rfl
theorem c_mk : Try.prog.cellsOf 33 = 1 := by kernel_rfl
theorem c_er : Try.prog.cellsOf 50 = 1 := by kernel_rfl
theorem c_ph : Try.prog.cellsOf 51 = 1 := by kernel_rfl
theorem c_str : Try.prog.cellsOf 9 = 1 := by kernel_rfl
theorem c_bool : Try.prog.cellsOf 4 = 1 := by kernel_rfl
theorem c_bys : Try.prog.cellsOf 30 = 1 := by kernel_rfl
theorem c_txs : Try.prog.cellsOf 34 = 1 := by kernel_rfl
theorem c_pls : Try.prog.cellsOf 52 = 1 := by kernel_rfl
theorem c_wts : Try.prog.cellsOf 22 = 1 := by kernel_rfl
theorem c_sqs : Try.prog.cellsOf 23 = 1 := by kernel_rfl
theorem c_batch : Try.prog.cellsOf 32 = 4 := by kernel_rfl
theorem c_cmd : Try.prog.cellsOf 38 = 11 := by kernel_rfl
theorem c_rq : Try.prog.cellsOf 40 = 23 := by kernel_rfl
theorem c_pl : Try.prog.cellsOf 36 = 2 := by kernel_rfl
theorem c_ans : Try.prog.cellsOf 54 = 6 := by kernel_rfl
theorem c_wt : Try.prog.cellsOf 42 = 26 := by kernel_rfl
theorem c_sq : Try.prog.cellsOf 65 = 3 := by kernel_rfl
theorem c_cl : Try.prog.cellsOf 25 = 10 := by kernel_rfl
theorem c_rp : Try.prog.cellsOf 56 = 16 := by kernel_rfl
theorem c_u8 : Try.prog.cellsOf 5 = 1 := by kernel_rfl
theorem c_by : Try.prog.cellsOf 71 = 1 := by kernel_rfl
theorem b_by : Try.prog.bytesOf 71 = 24 := by kernel_rfl
theorem b_str : Try.prog.bytesOf 9 = 16 := by kernel_rfl
theorem b_u8 : Try.prog.bytesOf 5 = 1 := by kernel_rfl
theorem mem_weightsAll {H : Type} {P : Program} {e : TypeId} : ∀ {l : List (DataW H)} {d : DataW H} {k : Nat}, d ∈ l → k ∈ d.weights P e → k ∈ DataW.weightsAll P e l
  | d0 :: l, d, k, hd, hk => by
    simp only [DataW.weightsAll, List.mem_append]
    rcases List.mem_cons.1 hd with rfl | h
    · exact .inl hk
    · exact .inr (mem_weightsAll h hk)
section
variable {H : Type} {enc : TypeId × Value → H} {W : World}
theorem rd_openD {α : Type} {t e sz fuel : Nat} {enc' : α → List Value} {cs : List Value} {x : DataW H × List MemPlace} {wf : α → Prop} (ht : Try.prog.underlying t = some (.slice e)) (hc : Try.prog.cellsOf e = sz) (hpos : 0 < sz) (hsz : ∀ x, (enc' x).length = sz)
    (hel : ∀ n cs y, DataW.trod enc Try.prog W 0 (fun _ => true) true n e cs = some y → (∀ k ∈ y.1.weights Try.prog e, k ≤ reachBytes) → ∃ x, cs = enc' x ∧ wf x)
    (h : DataW.trod enc Try.prog W 0 (fun _ => true) true fuel t cs = some x) (hwt : ∀ k ∈ x.1.weights Try.prog t, k ≤ reachBytes) :
    ∃ (v : OV) (xs : List α), cs = [v.1] ∧ Rd W.heap sz enc' v.1 xs ∧ (∀ x ∈ xs, wf x) ∧ xs.length * Try.prog.bytesOf e ≤ reachBytes := by
  rcases Deep.open_slice ht h with ⟨h1, h2⟩ | ⟨a, len, cap, m, n, D, Pl, h1, _, hlc, hmx, hm, hx, hcell⟩
  · exact ⟨⟨.slice none 0 0, rfl⟩, [], h1, Rd.nil _ _ _, by simp, by simp⟩
  · simp only [if_true] at hm
    subst hm
    by_cases hcap : m = 0
    · subst hcap
      obtain rfl : len = 0 := by omega
      exact ⟨⟨.slice (some a) 0 0, rfl⟩, [], h1, Rd.empty _ _ _ _, by simp, by simp⟩
    have hsp : a.spot = none := by
      obtain ⟨cs', g1, _⟩ := hcell 0 (by omega)
      obtain ⟨_, _, hg⟩ := World.cells?_some g1
      have := hg 0 (by rw [hc]; exact hpos)
      have e0 : (a.add (0 * Try.prog.cellsOf e)).add 0 = a := by simp [Addr.add]
      rw [e0] at this
      obtain ⟨v, hv⟩ : ∃ v, cs'[0]? = some v := by
        obtain ⟨_, hl, _⟩ := World.cells?_some g1
        exact ⟨cs'[0]'(by rw [hl, hc]; exact hpos), List.getElem?_eq_getElem _⟩
      rw [hv] at this
      exact World.cell?_spot this
    subst hx
    have hwt' : (len + (m - len)) * Try.prog.bytesOf e ≤ reachBytes ∧ ∀ i, i < len → ∀ k ∈ (D i).weights Try.prog e, k ≤ reachBytes := by
      simp only [DataW.weights, ht] at hwt
      refine ⟨?_, fun i hi k hk => hwt k ?_⟩
      · have := hwt _ (List.mem_cons_self ..)
        simpa using this
      · refine List.mem_cons_of_mem _ (List.mem_append_left _ ?_)
        exact mem_weightsAll (List.mem_map.2 ⟨i, by simpa using hi, rfl⟩) hk
    obtain ⟨hbig, hwe⟩ := hwt'
    have key : ∀ i, i < len → ∃ x, (W.cells? 0 (a.add (i * Try.prog.cellsOf e)) (Try.prog.cellsOf e)) = some (enc' x) ∧ wf x := by
      intro i hi
      obtain ⟨cs', g1, g2⟩ := hcell i (by omega)
      obtain ⟨x, rfl, hw⟩ := hel _ _ _ g2 (fun k hk => hwe i hi k hk)
      exact ⟨x, g1, hw⟩
    have hxs : ∃ xs : List α, xs.length = len ∧ ∀ (i : Nat) x, xs[i]? = some x → (W.cells? 0 (a.add (i * Try.prog.cellsOf e)) (Try.prog.cellsOf e)) = some (enc' x) ∧ wf x := by
      clear hcell h1 hlc hbig hwt hwe h
      induction len with
      | zero => exact ⟨[], rfl, by simp⟩
      | succ k ih =>
        obtain ⟨xs, g1, g2⟩ := ih (fun i hi => key i (by omega))
        obtain ⟨x, g3⟩ := key k (by omega)
        refine ⟨xs ++ [x], by simp [g1], fun i y hy => ?_⟩
        by_cases hi : i < xs.length
        · rw [List.getElem?_append_left hi] at hy; exact g2 i y hy
        · have : i = k := by have := (List.getElem?_eq_some_iff.1 hy).1; simp at this; omega
          subst this
          rw [List.getElem?_append_right (by omega)] at hy
          simp [g1] at hy
          subst hy; exact g3
    obtain ⟨xs, hlen, hxs⟩ := hxs
    refine ⟨⟨.slice (some a) len m, rfl⟩, xs, h1, ⟨.inr ⟨a.block, a.off, m, ?_, by omega⟩, by unfold maxLen at hmx; omega, fun x _ => hsz x, ?_⟩, ?_, by rw [hlen]; exact Nat.le_trans (Nat.mul_le_mul_right _ (Nat.le_add_right _ _)) hbig⟩
    · rw [hlen]
      have : a = ⟨a.block, a.off, none⟩ := by cases a; simp at hsp; simp [hsp]
      rw [← this]
    · intro i x hi j u hu
      obtain ⟨_, hl', hg⟩ := World.cells?_some (hxs i x hi).1
      have hj : j < Try.prog.cellsOf e := by have := (List.getElem?_eq_some_iff.1 hu).1; rw [hsz] at this; omega
      have := hg j hj
      rw [hu, add_at hsp, hc] at this
      have e2 : (Addr.add ⟨a.block, a.off + i * sz, none⟩ j) = ⟨a.block, a.off + i * sz + j, none⟩ := add_at rfl j
      rw [e2] at this
      exact Cell.of_get this
    · intro x hx'
      obtain ⟨i, hi, rfl⟩ := List.getElem_of_mem hx'
      exact (hxs i _ (List.getElem?_eq_getElem hi)).2
theorem st_open {t fuel : Nat} {fs : Array Field} {cs : List Value} {x : DataW H × List MemPlace} (ht : Try.prog.underlying t = some (.struct fs)) (h : DataW.trod enc Try.prog W 0 (fun _ => true) true fuel t cs = some x) (hwt : ∀ k ∈ x.1.weights Try.prog t, k ≤ reachBytes) :
    ∃ n, cs.length = Try.prog.cellsOf t ∧ ∀ (i : Nat) (f : Field), fs[i]? = some f → ∃ y, DataW.trod enc Try.prog W 0 (fun _ => true) true n f.type ((cs.drop f.offset).take (Try.prog.cellsOf f.type)) = some y ∧ ∀ k ∈ y.1.weights Try.prog f.type, k ≤ reachBytes := by
  obtain ⟨xs, n, _, rfl, hl, hlen, hf⟩ := DataW.trod_struct ht h
  refine ⟨n, hl, fun i f hi => ?_⟩
  have hi' : i < xs.length := by rw [hlen]; exact (Array.getElem?_eq_some_iff.1 hi).1
  have h1 := hf i f hi
  rw [List.getElem?_eq_getElem hi'] at h1
  refine ⟨_, h1, fun k hk => hwt k ?_⟩
  simp only [DataW.weights, ht]
  refine DataW.weights_mem_each (j := i) (t := f.type) (d := xs[i].1) ?_ (by simp [List.getElem?_eq_getElem hi']) k hk
  simp [hi]
theorem op_bytes {fuel : Nat} {cs : List Value} {x : DataW H × List MemPlace} (h : DataW.trod enc Try.prog W 0 (fun _ => true) true fuel 30 cs = some x) (hwt : ∀ k ∈ x.1.weights Try.prog 30, k ≤ reachBytes) :
    ∃ (v : OV) (ys : List (OV × List Int)), cs = [v.1] ∧ Rd W.heap 1 brE v.1 ys ∧ (∀ y ∈ ys, Rd W.heap 1 u8E y.1.1 y.2 ∧ y.2.length ≤ 140737488355328) ∧ ys.length * 24 ≤ 140737488355328 := by
  obtain ⟨v, ys, h1, h2, h3, h4⟩ := rd_openD (enc' := brE) (wf := fun (y : OV × List Int) => Rd W.heap 1 u8E y.1.1 y.2 ∧ y.2.length ≤ 140737488355328) Try.underlying30 c_by (by decide) (fun _ => rfl) (fun n cs y hy hk => by
    obtain ⟨u, bs, g1, g2, _, g4⟩ := rd_openD (enc' := u8E) (wf := fun _ => True) Try.underlying71 c_u8 (by decide) (fun _ => rfl) (fun n cs y hy _ => by
      obtain ⟨a, rfl, _, hw⟩ := DataW.trod_int Try.underlying5 hy
      exact ⟨a, rfl, trivial⟩) hy hk
    rw [b_u8] at g4
    exact ⟨(u, bs), g1, g2, by unfold reachBytes at g4; show bs.length ≤ _; omega⟩) h hwt
  rw [b_by] at h4
  exact ⟨v, ys, h1, h2, h3, by unfold reachBytes at h4; omega⟩
theorem op_texts {fuel : Nat} {cs : List Value} {x : DataW H × List MemPlace} (h : DataW.trod enc Try.prog W 0 (fun _ => true) true fuel 34 cs = some x) (hwt : ∀ k ∈ x.1.weights Try.prog 34, k ≤ reachBytes) :
    ∃ (v : OV) (xs : List ByteArray), cs = [v.1] ∧ Rd W.heap 1 sE v.1 xs ∧ xs.length * 16 ≤ 140737488355328 := by
  obtain ⟨v, xs, h1, h2, _, h4⟩ := rd_openD Try.underlying34 c_str (by decide) (fun _ => rfl) (wf := fun _ => True) (enc' := sE) (fun n cs y hy _ => by
    obtain ⟨a, rfl, _, hw⟩ := DataW.trod_string Try.underlying9 hy
    exact ⟨a, rfl, trivial⟩) h hwt
  rw [b_str] at h4
  exact ⟨v, xs, h1, h2, by unfold reachBytes at h4; omega⟩
theorem op_one {t e fuel : Nat} {cs : List Value} {x : DataW H × List MemPlace} (ht : Try.prog.underlying t = some (.slice e)) (h : DataW.trod enc Try.prog W 0 (fun _ => true) true fuel t cs = some x) : ∃ v : OV, cs = [v.1] := by
  rcases Deep.open_slice ht h with ⟨h1, _⟩ | ⟨a, len, cap, m, n, D, Pl, h1, _⟩
  · exact ⟨⟨_, rfl⟩, h1⟩
  · exact ⟨⟨_, rfl⟩, h1⟩
theorem op_batch {fuel : Nat} {cs : List Value} {x : DataW H × List MemPlace} (h : DataW.trod enc Try.prog W 0 (fun _ => true) true fuel 32 cs = some x) (hwt : ∀ k ∈ x.1.weights Try.prog 32, k ≤ reachBytes) :
    ∃ (a b c : Int) (v : OV) (ys : List (OV × List Int)), cs = [.int .i64 a, .int .i64 b, .int .i64 c, v.1] ∧ Rd W.heap 1 brE v.1 ys ∧ (∀ y ∈ ys, Rd W.heap 1 u8E y.1.1 y.2 ∧ y.2.length ≤ 140737488355328) ∧ ys.length * 24 ≤ 140737488355328 := by
  obtain ⟨n, hl, hf⟩ := st_open Try.underlying32 h hwt
  rw [c_batch] at hl
  match cs, hl with
  | [z0, z1, z2, z3], _ =>
    obtain ⟨y0, g0, k0⟩ := hf 0 _ rfl
    have g0 : DataW.trod enc Try.prog W 0 (fun _ => true) true n 2 ((([z0, z1, z2, z3] : List Value).drop 0).take (Try.prog.cellsOf 2)) = some y0 := g0
    have k0 : ∀ k ∈ y0.1.weights Try.prog 2, k ≤ reachBytes := k0
    rw [c_i64] at g0
    obtain ⟨a0, h0, _⟩ := DataW.trod_int Try.underlying2 g0
    obtain ⟨y1, g1, k1⟩ := hf 1 _ rfl
    have g1 : DataW.trod enc Try.prog W 0 (fun _ => true) true n 3 ((([z0, z1, z2, z3] : List Value).drop 1).take (Try.prog.cellsOf 3)) = some y1 := g1
    have k1 : ∀ k ∈ y1.1.weights Try.prog 3, k ≤ reachBytes := k1
    rw [c_int] at g1
    obtain ⟨a1, h1, _⟩ := DataW.trod_int Try.underlying3 g1
    obtain ⟨y2, g2, k2⟩ := hf 2 _ rfl
    have g2 : DataW.trod enc Try.prog W 0 (fun _ => true) true n 2 ((([z0, z1, z2, z3] : List Value).drop 2).take (Try.prog.cellsOf 2)) = some y2 := g2
    have k2 : ∀ k ∈ y2.1.weights Try.prog 2, k ≤ reachBytes := k2
    rw [c_i64] at g2
    obtain ⟨a2, h2, _⟩ := DataW.trod_int Try.underlying2 g2
    obtain ⟨y3, g3, k3⟩ := hf 3 _ rfl
    have g3 : DataW.trod enc Try.prog W 0 (fun _ => true) true n 30 ((([z0, z1, z2, z3] : List Value).drop 3).take (Try.prog.cellsOf 30)) = some y3 := g3
    have k3 : ∀ k ∈ y3.1.weights Try.prog 30, k ≤ reachBytes := k3
    rw [c_bys] at g3
    obtain ⟨a3, l3, h3, r3, s3, q3⟩ := op_bytes g3 k3
    simp at h0
    simp at h1
    simp at h2
    simp at h3
    subst h0
    subst h1
    subst h2
    subst h3
    exact ⟨_, _, _, _, _, rfl, r3, s3, q3⟩
theorem op_pl {fuel : Nat} {cs : List Value} {x : DataW H × List MemPlace} (h : DataW.trod enc Try.prog W 0 (fun _ => true) true fuel 36 cs = some x) (hwt : ∀ k ∈ x.1.weights Try.prog 36, k ≤ reachBytes) :
    ∃ (a : ByteArray) (b : Int), cs = [.string a, .int .i64 b] ∧ a.size ≤ maxLen := by
  obtain ⟨n, hl, hf⟩ := st_open Try.underlying36 h hwt
  rw [c_pl] at hl
  match cs, hl with
  | [z0, z1], _ =>
    obtain ⟨y0, g0, k0⟩ := hf 0 _ rfl
    have g0 : DataW.trod enc Try.prog W 0 (fun _ => true) true n 9 ((([z0, z1] : List Value).drop 0).take (Try.prog.cellsOf 9)) = some y0 := g0
    have k0 : ∀ k ∈ y0.1.weights Try.prog 9, k ≤ reachBytes := k0
    rw [c_str] at g0
    obtain ⟨a0, h0, _, t0⟩ := DataW.trod_string Try.underlying9 g0
    obtain ⟨y1, g1, k1⟩ := hf 1 _ rfl
    have g1 : DataW.trod enc Try.prog W 0 (fun _ => true) true n 3 ((([z0, z1] : List Value).drop 1).take (Try.prog.cellsOf 3)) = some y1 := g1
    have k1 : ∀ k ∈ y1.1.weights Try.prog 3, k ≤ reachBytes := k1
    rw [c_int] at g1
    obtain ⟨a1, h1, _⟩ := DataW.trod_int Try.underlying3 g1
    simp at h0
    simp at h1
    subst h0
    subst h1
    exact ⟨_, _, rfl, t0⟩
theorem op_cmd {fuel : Nat} {cs : List Value} {x : DataW H × List MemPlace} (h : DataW.trod enc Try.prog W 0 (fun _ => true) true fuel 38 cs = some x) (hwt : ∀ k ∈ x.1.weights Try.prog 38, k ≤ reachBytes) :
    ∃ (k : Int) (g nm : ByteArray) (n : Int) (v : OV) (xs : List ByteArray) (pt : ByteArray) (pp mo mn mc mk : Int), cs = [.int .u8 k, .string g, .string nm, .int .i64 n, v.1, .string pt, .int .i64 pp, .int .i64 mo, .int .i64 mn, .int .i64 mc, .int .i64 mk] ∧ Rd W.heap 1 sE v.1 xs ∧ xs.length * 16 ≤ 140737488355328 := by
  obtain ⟨n, hl, hf⟩ := st_open Try.underlying38 h hwt
  rw [c_cmd] at hl
  match cs, hl with
  | [z0, z1, z2, z3, z4, z5, z6, z7, z8, z9, z10], _ =>
    obtain ⟨y0, g0, k0⟩ := hf 0 _ rfl
    have g0 : DataW.trod enc Try.prog W 0 (fun _ => true) true n 33 ((([z0, z1, z2, z3, z4, z5, z6, z7, z8, z9, z10] : List Value).drop 0).take (Try.prog.cellsOf 33)) = some y0 := g0
    have k0 : ∀ k ∈ y0.1.weights Try.prog 33, k ≤ reachBytes := k0
    rw [c_mk] at g0
    obtain ⟨a0, h0, _⟩ := DataW.trod_int Try.underlying33 g0
    obtain ⟨y1, g1, k1⟩ := hf 1 _ rfl
    have g1 : DataW.trod enc Try.prog W 0 (fun _ => true) true n 9 ((([z0, z1, z2, z3, z4, z5, z6, z7, z8, z9, z10] : List Value).drop 1).take (Try.prog.cellsOf 9)) = some y1 := g1
    have k1 : ∀ k ∈ y1.1.weights Try.prog 9, k ≤ reachBytes := k1
    rw [c_str] at g1
    obtain ⟨a1, h1, _, t1⟩ := DataW.trod_string Try.underlying9 g1
    obtain ⟨y2, g2, k2⟩ := hf 2 _ rfl
    have g2 : DataW.trod enc Try.prog W 0 (fun _ => true) true n 9 ((([z0, z1, z2, z3, z4, z5, z6, z7, z8, z9, z10] : List Value).drop 2).take (Try.prog.cellsOf 9)) = some y2 := g2
    have k2 : ∀ k ∈ y2.1.weights Try.prog 9, k ≤ reachBytes := k2
    rw [c_str] at g2
    obtain ⟨a2, h2, _, t2⟩ := DataW.trod_string Try.underlying9 g2
    obtain ⟨y3, g3, k3⟩ := hf 3 _ rfl
    have g3 : DataW.trod enc Try.prog W 0 (fun _ => true) true n 3 ((([z0, z1, z2, z3, z4, z5, z6, z7, z8, z9, z10] : List Value).drop 3).take (Try.prog.cellsOf 3)) = some y3 := g3
    have k3 : ∀ k ∈ y3.1.weights Try.prog 3, k ≤ reachBytes := k3
    rw [c_int] at g3
    obtain ⟨a3, h3, _⟩ := DataW.trod_int Try.underlying3 g3
    obtain ⟨y4, g4, k4⟩ := hf 4 _ rfl
    have g4 : DataW.trod enc Try.prog W 0 (fun _ => true) true n 34 ((([z0, z1, z2, z3, z4, z5, z6, z7, z8, z9, z10] : List Value).drop 4).take (Try.prog.cellsOf 34)) = some y4 := g4
    have k4 : ∀ k ∈ y4.1.weights Try.prog 34, k ≤ reachBytes := k4
    rw [c_txs] at g4
    obtain ⟨a4, l4, h4, r4, q4⟩ := op_texts g4 k4
    obtain ⟨y5, g5, k5⟩ := hf 5 _ rfl
    have g5 : DataW.trod enc Try.prog W 0 (fun _ => true) true n 36 ((([z0, z1, z2, z3, z4, z5, z6, z7, z8, z9, z10] : List Value).drop 5).take (Try.prog.cellsOf 36)) = some y5 := g5
    have k5 : ∀ k ∈ y5.1.weights Try.prog 36, k ≤ reachBytes := k5
    rw [c_pl] at g5
    obtain ⟨p0, p1, h5, pt⟩ := op_pl g5 k5
    obtain ⟨y6, g6, k6⟩ := hf 6 _ rfl
    have g6 : DataW.trod enc Try.prog W 0 (fun _ => true) true n 2 ((([z0, z1, z2, z3, z4, z5, z6, z7, z8, z9, z10] : List Value).drop 7).take (Try.prog.cellsOf 2)) = some y6 := g6
    have k6 : ∀ k ∈ y6.1.weights Try.prog 2, k ≤ reachBytes := k6
    rw [c_i64] at g6
    obtain ⟨a6, h6, _⟩ := DataW.trod_int Try.underlying2 g6
    obtain ⟨y7, g7, k7⟩ := hf 7 _ rfl
    have g7 : DataW.trod enc Try.prog W 0 (fun _ => true) true n 2 ((([z0, z1, z2, z3, z4, z5, z6, z7, z8, z9, z10] : List Value).drop 8).take (Try.prog.cellsOf 2)) = some y7 := g7
    have k7 : ∀ k ∈ y7.1.weights Try.prog 2, k ≤ reachBytes := k7
    rw [c_i64] at g7
    obtain ⟨a7, h7, _⟩ := DataW.trod_int Try.underlying2 g7
    obtain ⟨y8, g8, k8⟩ := hf 8 _ rfl
    have g8 : DataW.trod enc Try.prog W 0 (fun _ => true) true n 3 ((([z0, z1, z2, z3, z4, z5, z6, z7, z8, z9, z10] : List Value).drop 9).take (Try.prog.cellsOf 3)) = some y8 := g8
    have k8 : ∀ k ∈ y8.1.weights Try.prog 3, k ≤ reachBytes := k8
    rw [c_int] at g8
    obtain ⟨a8, h8, _⟩ := DataW.trod_int Try.underlying3 g8
    obtain ⟨y9, g9, k9⟩ := hf 9 _ rfl
    have g9 : DataW.trod enc Try.prog W 0 (fun _ => true) true n 3 ((([z0, z1, z2, z3, z4, z5, z6, z7, z8, z9, z10] : List Value).drop 10).take (Try.prog.cellsOf 3)) = some y9 := g9
    have k9 : ∀ k ∈ y9.1.weights Try.prog 3, k ≤ reachBytes := k9
    rw [c_int] at g9
    obtain ⟨a9, h9, _⟩ := DataW.trod_int Try.underlying3 g9
    simp at h0
    simp at h1
    simp at h2
    simp at h3
    simp at h4
    simp at h5
    simp at h6
    simp at h7
    simp at h8
    simp at h9
    subst h0
    subst h1
    subst h2
    subst h3
    subst h4
    obtain ⟨rfl, rfl⟩ := h5
    subst h6
    subst h7
    subst h8
    subst h9
    exact ⟨_, _, _, _, _, _, _, _, _, _, _, _, rfl, r4, q4⟩
theorem op_rq {fuel : Nat} {cs : List Value} {x : DataW H × List MemPlace} (h : DataW.trod enc Try.prog W 0 (fun _ => true) true fuel 40 cs = some x) (hwt : ∀ k ∈ x.1.weights Try.prog 40, k ≤ reachBytes) :
    ∃ r : RQ, cs = rqE r ∧ RqRd W.heap r ∧ RqSz r ∧ r.topic.size ≤ maxLen := by
  obtain ⟨n, hl, hf⟩ := st_open Try.underlying40 h hwt
  rw [c_rq] at hl
  match cs, hl with
  | [z0, z1, z2, z3, z4, z5, z6, z7, z8, z9, z10, z11, z12, z13, z14, z15, z16, z17, z18, z19, z20, z21, z22], _ =>
    obtain ⟨y0, g0, k0⟩ := hf 0 _ rfl
    have g0 : DataW.trod enc Try.prog W 0 (fun _ => true) true n 29 ((([z0, z1, z2, z3, z4, z5, z6, z7, z8, z9, z10, z11, z12, z13, z14, z15, z16, z17, z18, z19, z20, z21, z22] : List Value).drop 0).take (Try.prog.cellsOf 29)) = some y0 := g0
    have k0 : ∀ k ∈ y0.1.weights Try.prog 29, k ≤ reachBytes := k0
    rw [c_rk] at g0
    obtain ⟨a0, h0, _⟩ := DataW.trod_int Try.underlying29 g0
    obtain ⟨y1, g1, k1⟩ := hf 1 _ rfl
    have g1 : DataW.trod enc Try.prog W 0 (fun _ => true) true n 3 ((([z0, z1, z2, z3, z4, z5, z6, z7, z8, z9, z10, z11, z12, z13, z14, z15, z16, z17, z18, z19, z20, z21, z22] : List Value).drop 1).take (Try.prog.cellsOf 3)) = some y1 := g1
    have k1 : ∀ k ∈ y1.1.weights Try.prog 3, k ≤ reachBytes := k1
    rw [c_int] at g1
    obtain ⟨a1, h1, _⟩ := DataW.trod_int Try.underlying3 g1
    obtain ⟨y2, g2, k2⟩ := hf 2 _ rfl
    have g2 : DataW.trod enc Try.prog W 0 (fun _ => true) true n 3 ((([z0, z1, z2, z3, z4, z5, z6, z7, z8, z9, z10, z11, z12, z13, z14, z15, z16, z17, z18, z19, z20, z21, z22] : List Value).drop 2).take (Try.prog.cellsOf 3)) = some y2 := g2
    have k2 : ∀ k ∈ y2.1.weights Try.prog 3, k ≤ reachBytes := k2
    rw [c_int] at g2
    obtain ⟨a2, h2, _⟩ := DataW.trod_int Try.underlying3 g2
    obtain ⟨y3, g3, k3⟩ := hf 3 _ rfl
    have g3 : DataW.trod enc Try.prog W 0 (fun _ => true) true n 9 ((([z0, z1, z2, z3, z4, z5, z6, z7, z8, z9, z10, z11, z12, z13, z14, z15, z16, z17, z18, z19, z20, z21, z22] : List Value).drop 3).take (Try.prog.cellsOf 9)) = some y3 := g3
    have k3 : ∀ k ∈ y3.1.weights Try.prog 9, k ≤ reachBytes := k3
    rw [c_str] at g3
    obtain ⟨a3, h3, _, t3⟩ := DataW.trod_string Try.underlying9 g3
    obtain ⟨y4, g4, k4⟩ := hf 4 _ rfl
    have g4 : DataW.trod enc Try.prog W 0 (fun _ => true) true n 3 ((([z0, z1, z2, z3, z4, z5, z6, z7, z8, z9, z10, z11, z12, z13, z14, z15, z16, z17, z18, z19, z20, z21, z22] : List Value).drop 4).take (Try.prog.cellsOf 3)) = some y4 := g4
    have k4 : ∀ k ∈ y4.1.weights Try.prog 3, k ≤ reachBytes := k4
    rw [c_int] at g4
    obtain ⟨a4, h4, _⟩ := DataW.trod_int Try.underlying3 g4
    obtain ⟨y5, g5, k5⟩ := hf 5 _ rfl
    have g5 : DataW.trod enc Try.prog W 0 (fun _ => true) true n 32 ((([z0, z1, z2, z3, z4, z5, z6, z7, z8, z9, z10, z11, z12, z13, z14, z15, z16, z17, z18, z19, z20, z21, z22] : List Value).drop 5).take (Try.prog.cellsOf 32)) = some y5 := g5
    have k5 : ∀ k ∈ y5.1.weights Try.prog 32, k ≤ reachBytes := k5
    rw [c_batch] at g5
    obtain ⟨b0, b1, b2, bv, bl, h5, br, bs, bq⟩ := op_batch g5 k5
    obtain ⟨y6, g6, k6⟩ := hf 6 _ rfl
    have g6 : DataW.trod enc Try.prog W 0 (fun _ => true) true n 2 ((([z0, z1, z2, z3, z4, z5, z6, z7, z8, z9, z10, z11, z12, z13, z14, z15, z16, z17, z18, z19, z20, z21, z22] : List Value).drop 9).take (Try.prog.cellsOf 2)) = some y6 := g6
    have k6 : ∀ k ∈ y6.1.weights Try.prog 2, k ≤ reachBytes := k6
    rw [c_i64] at g6
    obtain ⟨a6, h6, _⟩ := DataW.trod_int Try.underlying2 g6
    obtain ⟨y7, g7, k7⟩ := hf 7 _ rfl
    have g7 : DataW.trod enc Try.prog W 0 (fun _ => true) true n 3 ((([z0, z1, z2, z3, z4, z5, z6, z7, z8, z9, z10, z11, z12, z13, z14, z15, z16, z17, z18, z19, z20, z21, z22] : List Value).drop 10).take (Try.prog.cellsOf 3)) = some y7 := g7
    have k7 : ∀ k ∈ y7.1.weights Try.prog 3, k ≤ reachBytes := k7
    rw [c_int] at g7
    obtain ⟨a7, h7, _⟩ := DataW.trod_int Try.underlying3 g7
    obtain ⟨y8, g8, k8⟩ := hf 8 _ rfl
    have g8 : DataW.trod enc Try.prog W 0 (fun _ => true) true n 3 ((([z0, z1, z2, z3, z4, z5, z6, z7, z8, z9, z10, z11, z12, z13, z14, z15, z16, z17, z18, z19, z20, z21, z22] : List Value).drop 11).take (Try.prog.cellsOf 3)) = some y8 := g8
    have k8 : ∀ k ∈ y8.1.weights Try.prog 3, k ≤ reachBytes := k8
    rw [c_int] at g8
    obtain ⟨a8, h8, _⟩ := DataW.trod_int Try.underlying3 g8
    obtain ⟨y9, g9, k9⟩ := hf 9 _ rfl
    have g9 : DataW.trod enc Try.prog W 0 (fun _ => true) true n 38 ((([z0, z1, z2, z3, z4, z5, z6, z7, z8, z9, z10, z11, z12, z13, z14, z15, z16, z17, z18, z19, z20, z21, z22] : List Value).drop 12).take (Try.prog.cellsOf 38)) = some y9 := g9
    have k9 : ∀ k ∈ y9.1.weights Try.prog 38, k ≤ reachBytes := k9
    rw [c_cmd] at g9
    obtain ⟨m0, m1, m2, m3, mv, ml, m5, m6, m7, m8, m9, m10, h9, mr, mq⟩ := op_cmd g9 k9
    simp at h0
    simp at h1
    simp at h2
    simp at h3
    simp at h4
    simp at h5
    simp at h6
    simp at h7
    simp at h8
    simp at h9
    subst h0
    subst h1
    subst h2
    subst h3
    subst h4
    obtain ⟨rfl, rfl, rfl, rfl⟩ := h5
    subst h6
    subst h7
    subst h8
    obtain ⟨rfl, rfl, rfl, rfl, rfl, rfl, rfl, rfl, rfl, rfl, rfl⟩ := h9
    exact ⟨⟨a0, a1, a2, a3, a4, b0, b1, b2, bv, a6, a7, a8, m0, m1, m2, m3, mv, m5, m6, m7, m8, m9, m10, bl, ml⟩, rfl, ⟨br, fun y hy => (bs y hy).1, mr⟩, ⟨bq, fun y hy => (bs y hy).2, mq⟩, t3⟩
theorem op_wt {fuel : Nat} {cs : List Value} {x : DataW H × List MemPlace} (h : DataW.trod enc Try.prog W 0 (fun _ => true) true fuel 42 cs = some x) (hwt : ∀ k ∈ x.1.weights Try.prog 42, k ≤ reachBytes) :
    ∃ x : WT, cs = wtE x ∧ RqRd W.heap x.rq ∧ RqSz x.rq ∧ x.rq.topic.size ≤ maxLen := by
  obtain ⟨n, hl, hf⟩ := st_open Try.underlying42 h hwt
  rw [c_wt] at hl
  match cs, hl with
  | [z0, z1, z2, z3, z4, z5, z6, z7, z8, z9, z10, z11, z12, z13, z14, z15, z16, z17, z18, z19, z20, z21, z22, z23, z24, z25], _ =>
    obtain ⟨y0, g0, k0⟩ := hf 0 _ rfl
    have g0 : DataW.trod enc Try.prog W 0 (fun _ => true) true n 40 ((([z0, z1, z2, z3, z4, z5, z6, z7, z8, z9, z10, z11, z12, z13, z14, z15, z16, z17, z18, z19, z20, z21, z22, z23, z24, z25] : List Value).drop 0).take (Try.prog.cellsOf 40)) = some y0 := g0
    have k0 : ∀ k ∈ y0.1.weights Try.prog 40, k ≤ reachBytes := k0
    rw [c_rq] at g0
    obtain ⟨rq, h0, rr, rs, rt⟩ := op_rq g0 k0
    obtain ⟨y1, g1, k1⟩ := hf 1 _ rfl
    have g1 : DataW.trod enc Try.prog W 0 (fun _ => true) true n 2 ((([z0, z1, z2, z3, z4, z5, z6, z7, z8, z9, z10, z11, z12, z13, z14, z15, z16, z17, z18, z19, z20, z21, z22, z23, z24, z25] : List Value).drop 23).take (Try.prog.cellsOf 2)) = some y1 := g1
    have k1 : ∀ k ∈ y1.1.weights Try.prog 2, k ≤ reachBytes := k1
    rw [c_i64] at g1
    obtain ⟨a1, h1, _⟩ := DataW.trod_int Try.underlying2 g1
    obtain ⟨y2, g2, k2⟩ := hf 2 _ rfl
    have g2 : DataW.trod enc Try.prog W 0 (fun _ => true) true n 3 ((([z0, z1, z2, z3, z4, z5, z6, z7, z8, z9, z10, z11, z12, z13, z14, z15, z16, z17, z18, z19, z20, z21, z22, z23, z24, z25] : List Value).drop 24).take (Try.prog.cellsOf 3)) = some y2 := g2
    have k2 : ∀ k ∈ y2.1.weights Try.prog 3, k ≤ reachBytes := k2
    rw [c_int] at g2
    obtain ⟨a2, h2, _⟩ := DataW.trod_int Try.underlying3 g2
    obtain ⟨y3, g3, k3⟩ := hf 3 _ rfl
    have g3 : DataW.trod enc Try.prog W 0 (fun _ => true) true n 3 ((([z0, z1, z2, z3, z4, z5, z6, z7, z8, z9, z10, z11, z12, z13, z14, z15, z16, z17, z18, z19, z20, z21, z22, z23, z24, z25] : List Value).drop 25).take (Try.prog.cellsOf 3)) = some y3 := g3
    have k3 : ∀ k ∈ y3.1.weights Try.prog 3, k ≤ reachBytes := k3
    rw [c_int] at g3
    obtain ⟨a3, h3, _⟩ := DataW.trod_int Try.underlying3 g3
    simp [rqE] at h0
    simp at h1
    simp at h2
    simp at h3
    obtain ⟨rfl, rfl, rfl, rfl, rfl, rfl, rfl, rfl, rfl, rfl, rfl, rfl, rfl, rfl, rfl, rfl, rfl, rfl, rfl, rfl, rfl, rfl, rfl⟩ := h0
    subst h1
    subst h2
    subst h3
    exact ⟨⟨rq, a1, a2, a3⟩, rfl, rr, rs, rt⟩
theorem op_sq {fuel : Nat} {cs : List Value} {x : DataW H × List MemPlace} (h : DataW.trod enc Try.prog W 0 (fun _ => true) true fuel 65 cs = some x) (hwt : ∀ k ∈ x.1.weights Try.prog 65, k ≤ reachBytes) :
    ∃ s : SQ, cs = sqE s ∧ s.topic.size ≤ maxLen := by
  obtain ⟨n, hl, hf⟩ := st_open Try.underlying65 h hwt
  rw [c_sq] at hl
  match cs, hl with
  | [z0, z1, z2], _ =>
    obtain ⟨y0, g0, k0⟩ := hf 0 _ rfl
    have g0 : DataW.trod enc Try.prog W 0 (fun _ => true) true n 36 ((([z0, z1, z2] : List Value).drop 0).take (Try.prog.cellsOf 36)) = some y0 := g0
    have k0 : ∀ k ∈ y0.1.weights Try.prog 36, k ≤ reachBytes := k0
    rw [c_pl] at g0
    obtain ⟨p0, p1, h0, pt⟩ := op_pl g0 k0
    obtain ⟨y1, g1, k1⟩ := hf 1 _ rfl
    have g1 : DataW.trod enc Try.prog W 0 (fun _ => true) true n 2 ((([z0, z1, z2] : List Value).drop 2).take (Try.prog.cellsOf 2)) = some y1 := g1
    have k1 : ∀ k ∈ y1.1.weights Try.prog 2, k ≤ reachBytes := k1
    rw [c_i64] at g1
    obtain ⟨a1, h1, _⟩ := DataW.trod_int Try.underlying2 g1
    simp at h0
    simp at h1
    obtain ⟨rfl, rfl⟩ := h0
    subst h1
    exact ⟨⟨p0, p1, a1⟩, rfl, pt⟩
theorem op_cl {fuel : Nat} {cs : List Value} {x : DataW H × List MemPlace} (h : DataW.trod enc Try.prog W 0 (fun _ => true) true fuel 25 cs = some x) (hwt : ∀ k ∈ x.1.weights Try.prog 25, k ≤ reachBytes) :
    ∃ c : CL, cs = clE c ∧ ClRd W.heap c ∧ (∀ x ∈ c.ws, RqSz x.rq ∧ x.rq.topic.size ≤ maxLen) ∧ ∀ s ∈ c.ss, s.topic.size ≤ maxLen := by
  obtain ⟨n, hl, hf⟩ := st_open Try.underlying25 h hwt
  rw [c_cl] at hl
  match cs, hl with
  | [z0, z1, z2, z3, z4, z5, z6, z7, z8, z9], _ =>
    obtain ⟨y0, g0, k0⟩ := hf 0 _ rfl
    have g0 : DataW.trod enc Try.prog W 0 (fun _ => true) true n 3 ((([z0, z1, z2, z3, z4, z5, z6, z7, z8, z9] : List Value).drop 0).take (Try.prog.cellsOf 3)) = some y0 := g0
    have k0 : ∀ k ∈ y0.1.weights Try.prog 3, k ≤ reachBytes := k0
    rw [c_int] at g0
    obtain ⟨a0, h0, _⟩ := DataW.trod_int Try.underlying3 g0
    obtain ⟨y1, g1, k1⟩ := hf 1 _ rfl
    have g1 : DataW.trod enc Try.prog W 0 (fun _ => true) true n 3 ((([z0, z1, z2, z3, z4, z5, z6, z7, z8, z9] : List Value).drop 1).take (Try.prog.cellsOf 3)) = some y1 := g1
    have k1 : ∀ k ∈ y1.1.weights Try.prog 3, k ≤ reachBytes := k1
    rw [c_int] at g1
    obtain ⟨a1, h1, _⟩ := DataW.trod_int Try.underlying3 g1
    obtain ⟨y2, g2, k2⟩ := hf 2 _ rfl
    have g2 : DataW.trod enc Try.prog W 0 (fun _ => true) true n 3 ((([z0, z1, z2, z3, z4, z5, z6, z7, z8, z9] : List Value).drop 2).take (Try.prog.cellsOf 3)) = some y2 := g2
    have k2 : ∀ k ∈ y2.1.weights Try.prog 3, k ≤ reachBytes := k2
    rw [c_int] at g2
    obtain ⟨a2, h2, _⟩ := DataW.trod_int Try.underlying3 g2
    obtain ⟨y3, g3, k3⟩ := hf 3 _ rfl
    have g3 : DataW.trod enc Try.prog W 0 (fun _ => true) true n 2 ((([z0, z1, z2, z3, z4, z5, z6, z7, z8, z9] : List Value).drop 3).take (Try.prog.cellsOf 2)) = some y3 := g3
    have k3 : ∀ k ∈ y3.1.weights Try.prog 2, k ≤ reachBytes := k3
    rw [c_i64] at g3
    obtain ⟨a3, h3, _⟩ := DataW.trod_int Try.underlying2 g3
    obtain ⟨y4, g4, k4⟩ := hf 4 _ rfl
    have g4 : DataW.trod enc Try.prog W 0 (fun _ => true) true n 3 ((([z0, z1, z2, z3, z4, z5, z6, z7, z8, z9] : List Value).drop 4).take (Try.prog.cellsOf 3)) = some y4 := g4
    have k4 : ∀ k ∈ y4.1.weights Try.prog 3, k ≤ reachBytes := k4
    rw [c_int] at g4
    obtain ⟨a4, h4, _⟩ := DataW.trod_int Try.underlying3 g4
    obtain ⟨y5, g5, k5⟩ := hf 5 _ rfl
    have g5 : DataW.trod enc Try.prog W 0 (fun _ => true) true n 22 ((([z0, z1, z2, z3, z4, z5, z6, z7, z8, z9] : List Value).drop 5).take (Try.prog.cellsOf 22)) = some y5 := g5
    have k5 : ∀ k ∈ y5.1.weights Try.prog 22, k ≤ reachBytes := k5
    rw [c_wts] at g5
    obtain ⟨wv, ws, h5, wr, ww, _⟩ := rd_openD (enc' := wtE) (wf := fun (x : WT) => RqRd W.heap x.rq ∧ RqSz x.rq ∧ x.rq.topic.size ≤ maxLen) Try.underlying22 c_wt (by decide) (fun _ => rfl) (fun n cs y hy hk => op_wt hy hk) g5 k5
    obtain ⟨y6, g6, k6⟩ := hf 6 _ rfl
    have g6 : DataW.trod enc Try.prog W 0 (fun _ => true) true n 2 ((([z0, z1, z2, z3, z4, z5, z6, z7, z8, z9] : List Value).drop 6).take (Try.prog.cellsOf 2)) = some y6 := g6
    have k6 : ∀ k ∈ y6.1.weights Try.prog 2, k ≤ reachBytes := k6
    rw [c_i64] at g6
    obtain ⟨a6, h6, _⟩ := DataW.trod_int Try.underlying2 g6
    obtain ⟨y7, g7, k7⟩ := hf 7 _ rfl
    have g7 : DataW.trod enc Try.prog W 0 (fun _ => true) true n 3 ((([z0, z1, z2, z3, z4, z5, z6, z7, z8, z9] : List Value).drop 7).take (Try.prog.cellsOf 3)) = some y7 := g7
    have k7 : ∀ k ∈ y7.1.weights Try.prog 3, k ≤ reachBytes := k7
    rw [c_int] at g7
    obtain ⟨a7, h7, _⟩ := DataW.trod_int Try.underlying3 g7
    obtain ⟨y8, g8, k8⟩ := hf 8 _ rfl
    have g8 : DataW.trod enc Try.prog W 0 (fun _ => true) true n 4 ((([z0, z1, z2, z3, z4, z5, z6, z7, z8, z9] : List Value).drop 8).take (Try.prog.cellsOf 4)) = some y8 := g8
    have k8 : ∀ k ∈ y8.1.weights Try.prog 4, k ≤ reachBytes := k8
    rw [c_bool] at g8
    obtain ⟨a8, h8, _⟩ := DataW.trod_bool Try.underlying4 g8
    obtain ⟨y9, g9, k9⟩ := hf 9 _ rfl
    have g9 : DataW.trod enc Try.prog W 0 (fun _ => true) true n 23 ((([z0, z1, z2, z3, z4, z5, z6, z7, z8, z9] : List Value).drop 9).take (Try.prog.cellsOf 23)) = some y9 := g9
    have k9 : ∀ k ∈ y9.1.weights Try.prog 23, k ≤ reachBytes := k9
    rw [c_sqs] at g9
    obtain ⟨sv, ss, h9, sr, st, _⟩ := rd_openD (enc' := sqE) (wf := fun (s : SQ) => s.topic.size ≤ maxLen) Try.underlying23 c_sq (by decide) (fun _ => rfl) (fun n cs y hy hk => op_sq hy hk) g9 k9
    simp at h0
    simp at h1
    simp at h2
    simp at h3
    simp at h4
    simp at h5
    simp at h6
    simp at h7
    simp at h8
    simp at h9
    subst h0
    subst h1
    subst h2
    subst h3
    subst h4
    subst h5
    subst h6
    subst h7
    subst h8
    subst h9
    exact ⟨⟨a0, a1, a2, a3, a4, wv, a6, a7, a8, sv, ws, ss⟩, rfl, ⟨wr, fun x hx => (ww x hx).1, sr⟩, fun x hx => (ww x hx).2, st⟩
theorem op_ans {fuel : Nat} {cs : List Value} {x : DataW H × List MemPlace} (h : DataW.trod enc Try.prog W 0 (fun _ => true) true fuel 54 cs = some x) (hwt : ∀ k ∈ x.1.weights Try.prog 54, k ≤ reachBytes) :
    ∃ (a b c d e : Int) (v : OV), cs = [.int .i64 a, .int .i64 b, .int .i64 c, .int .i64 d, .int .u8 e, v.1] := by
  obtain ⟨n, hl, hf⟩ := st_open Try.underlying54 h hwt
  rw [c_ans] at hl
  match cs, hl with
  | [z0, z1, z2, z3, z4, z5], _ =>
    obtain ⟨y0, g0, k0⟩ := hf 0 _ rfl
    have g0 : DataW.trod enc Try.prog W 0 (fun _ => true) true n 50 ((([z0, z1, z2, z3, z4, z5] : List Value).drop 0).take (Try.prog.cellsOf 50)) = some y0 := g0
    have k0 : ∀ k ∈ y0.1.weights Try.prog 50, k ≤ reachBytes := k0
    rw [c_er] at g0
    obtain ⟨a0, h0, _⟩ := DataW.trod_int Try.underlying50 g0
    obtain ⟨y1, g1, k1⟩ := hf 1 _ rfl
    have g1 : DataW.trod enc Try.prog W 0 (fun _ => true) true n 2 ((([z0, z1, z2, z3, z4, z5] : List Value).drop 1).take (Try.prog.cellsOf 2)) = some y1 := g1
    have k1 : ∀ k ∈ y1.1.weights Try.prog 2, k ≤ reachBytes := k1
    rw [c_i64] at g1
    obtain ⟨a1, h1, _⟩ := DataW.trod_int Try.underlying2 g1
    obtain ⟨y2, g2, k2⟩ := hf 2 _ rfl
    have g2 : DataW.trod enc Try.prog W 0 (fun _ => true) true n 3 ((([z0, z1, z2, z3, z4, z5] : List Value).drop 2).take (Try.prog.cellsOf 3)) = some y2 := g2
    have k2 : ∀ k ∈ y2.1.weights Try.prog 3, k ≤ reachBytes := k2
    rw [c_int] at g2
    obtain ⟨a2, h2, _⟩ := DataW.trod_int Try.underlying3 g2
    obtain ⟨y3, g3, k3⟩ := hf 3 _ rfl
    have g3 : DataW.trod enc Try.prog W 0 (fun _ => true) true n 3 ((([z0, z1, z2, z3, z4, z5] : List Value).drop 3).take (Try.prog.cellsOf 3)) = some y3 := g3
    have k3 : ∀ k ∈ y3.1.weights Try.prog 3, k ≤ reachBytes := k3
    rw [c_int] at g3
    obtain ⟨a3, h3, _⟩ := DataW.trod_int Try.underlying3 g3
    obtain ⟨y4, g4, k4⟩ := hf 4 _ rfl
    have g4 : DataW.trod enc Try.prog W 0 (fun _ => true) true n 51 ((([z0, z1, z2, z3, z4, z5] : List Value).drop 4).take (Try.prog.cellsOf 51)) = some y4 := g4
    have k4 : ∀ k ∈ y4.1.weights Try.prog 51, k ≤ reachBytes := k4
    rw [c_ph] at g4
    obtain ⟨a4, h4, _⟩ := DataW.trod_int Try.underlying51 g4
    obtain ⟨y5, g5, k5⟩ := hf 5 _ rfl
    have g5 : DataW.trod enc Try.prog W 0 (fun _ => true) true n 52 ((([z0, z1, z2, z3, z4, z5] : List Value).drop 5).take (Try.prog.cellsOf 52)) = some y5 := g5
    have k5 : ∀ k ∈ y5.1.weights Try.prog 52, k ≤ reachBytes := k5
    rw [c_pls] at g5
    obtain ⟨a5, h5⟩ := op_one Try.underlying52 g5
    simp at h0
    simp at h1
    simp at h2
    simp at h3
    simp at h4
    simp at h5
    subst h0
    subst h1
    subst h2
    subst h3
    subst h4
    subst h5
    exact ⟨_, _, _, _, _, _, rfl⟩
theorem op_rp {fuel : Nat} {cs : List Value} {x : DataW H × List MemPlace} (h : DataW.trod enc Try.prog W 0 (fun _ => true) true fuel 56 cs = some x) (hwt : ∀ k ∈ x.1.weights Try.prog 56, k ≤ reachBytes) :
    ∃ a : RP, cs = rpE a := by
  obtain ⟨n, hl, hf⟩ := st_open Try.underlying56 h hwt
  rw [c_rp] at hl
  match cs, hl with
  | [z0, z1, z2, z3, z4, z5, z6, z7, z8, z9, z10, z11, z12, z13, z14, z15], _ =>
    obtain ⟨y0, g0, k0⟩ := hf 0 _ rfl
    have g0 : DataW.trod enc Try.prog W 0 (fun _ => true) true n 29 ((([z0, z1, z2, z3, z4, z5, z6, z7, z8, z9, z10, z11, z12, z13, z14, z15] : List Value).drop 0).take (Try.prog.cellsOf 29)) = some y0 := g0
    have k0 : ∀ k ∈ y0.1.weights Try.prog 29, k ≤ reachBytes := k0
    rw [c_rk] at g0
    obtain ⟨a0, h0, _⟩ := DataW.trod_int Try.underlying29 g0
    obtain ⟨y1, g1, k1⟩ := hf 1 _ rfl
    have g1 : DataW.trod enc Try.prog W 0 (fun _ => true) true n 3 ((([z0, z1, z2, z3, z4, z5, z6, z7, z8, z9, z10, z11, z12, z13, z14, z15] : List Value).drop 1).take (Try.prog.cellsOf 3)) = some y1 := g1
    have k1 : ∀ k ∈ y1.1.weights Try.prog 3, k ≤ reachBytes := k1
    rw [c_int] at g1
    obtain ⟨a1, h1, _⟩ := DataW.trod_int Try.underlying3 g1
    obtain ⟨y2, g2, k2⟩ := hf 2 _ rfl
    have g2 : DataW.trod enc Try.prog W 0 (fun _ => true) true n 3 ((([z0, z1, z2, z3, z4, z5, z6, z7, z8, z9, z10, z11, z12, z13, z14, z15] : List Value).drop 2).take (Try.prog.cellsOf 3)) = some y2 := g2
    have k2 : ∀ k ∈ y2.1.weights Try.prog 3, k ≤ reachBytes := k2
    rw [c_int] at g2
    obtain ⟨a2, h2, _⟩ := DataW.trod_int Try.underlying3 g2
    obtain ⟨y3, g3, k3⟩ := hf 3 _ rfl
    have g3 : DataW.trod enc Try.prog W 0 (fun _ => true) true n 50 ((([z0, z1, z2, z3, z4, z5, z6, z7, z8, z9, z10, z11, z12, z13, z14, z15] : List Value).drop 3).take (Try.prog.cellsOf 50)) = some y3 := g3
    have k3 : ∀ k ∈ y3.1.weights Try.prog 50, k ≤ reachBytes := k3
    rw [c_er] at g3
    obtain ⟨a3, h3, _⟩ := DataW.trod_int Try.underlying50 g3
    obtain ⟨y4, g4, k4⟩ := hf 4 _ rfl
    have g4 : DataW.trod enc Try.prog W 0 (fun _ => true) true n 3 ((([z0, z1, z2, z3, z4, z5, z6, z7, z8, z9, z10, z11, z12, z13, z14, z15] : List Value).drop 4).take (Try.prog.cellsOf 3)) = some y4 := g4
    have k4 : ∀ k ∈ y4.1.weights Try.prog 3, k ≤ reachBytes := k4
    rw [c_int] at g4
    obtain ⟨a4, h4, _⟩ := DataW.trod_int Try.underlying3 g4
    obtain ⟨y5, g5, k5⟩ := hf 5 _ rfl
    have g5 : DataW.trod enc Try.prog W 0 (fun _ => true) true n 2 ((([z0, z1, z2, z3, z4, z5, z6, z7, z8, z9, z10, z11, z12, z13, z14, z15] : List Value).drop 5).take (Try.prog.cellsOf 2)) = some y5 := g5
    have k5 : ∀ k ∈ y5.1.weights Try.prog 2, k ≤ reachBytes := k5
    rw [c_i64] at g5
    obtain ⟨a5, h5, _⟩ := DataW.trod_int Try.underlying2 g5
    obtain ⟨y6, g6, k6⟩ := hf 6 _ rfl
    have g6 : DataW.trod enc Try.prog W 0 (fun _ => true) true n 2 ((([z0, z1, z2, z3, z4, z5, z6, z7, z8, z9, z10, z11, z12, z13, z14, z15] : List Value).drop 6).take (Try.prog.cellsOf 2)) = some y6 := g6
    have k6 : ∀ k ∈ y6.1.weights Try.prog 2, k ≤ reachBytes := k6
    rw [c_i64] at g6
    obtain ⟨a6, h6, _⟩ := DataW.trod_int Try.underlying2 g6
    obtain ⟨y7, g7, k7⟩ := hf 7 _ rfl
    have g7 : DataW.trod enc Try.prog W 0 (fun _ => true) true n 2 ((([z0, z1, z2, z3, z4, z5, z6, z7, z8, z9, z10, z11, z12, z13, z14, z15] : List Value).drop 7).take (Try.prog.cellsOf 2)) = some y7 := g7
    have k7 : ∀ k ∈ y7.1.weights Try.prog 2, k ≤ reachBytes := k7
    rw [c_i64] at g7
    obtain ⟨a7, h7, _⟩ := DataW.trod_int Try.underlying2 g7
    obtain ⟨y8, g8, k8⟩ := hf 8 _ rfl
    have g8 : DataW.trod enc Try.prog W 0 (fun _ => true) true n 4 ((([z0, z1, z2, z3, z4, z5, z6, z7, z8, z9, z10, z11, z12, z13, z14, z15] : List Value).drop 8).take (Try.prog.cellsOf 4)) = some y8 := g8
    have k8 : ∀ k ∈ y8.1.weights Try.prog 4, k ≤ reachBytes := k8
    rw [c_bool] at g8
    obtain ⟨a8, h8, _⟩ := DataW.trod_bool Try.underlying4 g8
    obtain ⟨y9, g9, k9⟩ := hf 9 _ rfl
    have g9 : DataW.trod enc Try.prog W 0 (fun _ => true) true n 30 ((([z0, z1, z2, z3, z4, z5, z6, z7, z8, z9, z10, z11, z12, z13, z14, z15] : List Value).drop 9).take (Try.prog.cellsOf 30)) = some y9 := g9
    have k9 : ∀ k ∈ y9.1.weights Try.prog 30, k ≤ reachBytes := k9
    rw [c_bys] at g9
    obtain ⟨a9, h9⟩ := op_one Try.underlying30 g9
    obtain ⟨y10, g10, k10⟩ := hf 10 _ rfl
    have g10 : DataW.trod enc Try.prog W 0 (fun _ => true) true n 54 ((([z0, z1, z2, z3, z4, z5, z6, z7, z8, z9, z10, z11, z12, z13, z14, z15] : List Value).drop 10).take (Try.prog.cellsOf 54)) = some y10 := g10
    have k10 : ∀ k ∈ y10.1.weights Try.prog 54, k ≤ reachBytes := k10
    rw [c_ans] at g10
    obtain ⟨m0, m1, m2, m3, m4, m5, h10⟩ := op_ans g10 k10
    simp at h0
    simp at h1
    simp at h2
    simp at h3
    simp at h4
    simp at h5
    simp at h6
    simp at h7
    simp at h8
    simp at h9
    simp at h10
    subst h0
    subst h1
    subst h2
    subst h3
    subst h4
    subst h5
    subst h6
    subst h7
    subst h8
    subst h9
    obtain ⟨rfl, rfl, rfl, rfl, rfl, rfl⟩ := h10
    exact ⟨⟨a0, a1, a2, a3, a4, a5, a6, a7, a8, a9, m0, m1, m2, m3, m4, m5⟩, rfl⟩
theorem open_cl {base : Nat} {v : Value} {d : DataW H} {ps : List MemPlace} (hval : Value.okWide Try.prog W .any base 25 v) (h : DataW.Trod enc Try.prog W 0 (fun _ => true) true 25 v d ps) (hwt : ∀ k ∈ d.weights Try.prog 25, k ≤ reachBytes) : ∃ c : CL, v = .agg (clE c).toArray ∧ ClRd W.heap c ∧ (∀ x ∈ c.ws, RqSz x.rq ∧ x.rq.topic.size ≤ maxLen) ∧ ∀ s ∈ c.ss, s.topic.size ≤ maxLen := by
  obtain ⟨cs, rfl, _⟩ := okWide_struct Try.underlying25 hval
  obtain ⟨fuel, hf⟩ := h
  obtain ⟨c, e, r⟩ := op_cl hf hwt
  have e' : cs.toList = clE c := e
  exact ⟨c, by rw [← e'], r⟩
theorem open_rp {base : Nat} {v : Value} {d : DataW H} {ps : List MemPlace} (hval : Value.okWide Try.prog W .any base 56 v) (h : DataW.Trod enc Try.prog W 0 (fun _ => true) true 56 v d ps) (hwt : ∀ k ∈ d.weights Try.prog 56, k ≤ reachBytes) : ∃ c : RP, v = .agg (rpE c).toArray := by
  obtain ⟨cs, rfl, _⟩ := okWide_struct Try.underlying56 hval
  obtain ⟨fuel, hf⟩ := h
  obtain ⟨c, e⟩ := op_rp hf hwt
  have e' : cs.toList = rpE c := e
  exact ⟨c, by rw [← e']⟩
end
end Go.Proofs.Ytchfaeaagpemlaa

set_option maxRecDepth 100000
namespace Go.Proofs.Ytchfaeaagpemlaa
open Go Go.Eng
def cmpP (t : ByteArray) (p : Int) (t' : ByteArray) (p' : Int) : Int := if Lib.compareBytes t.data.toList t'.data.toList ≠ 0 then Lib.compareBytes t.data.toList t'.data.toList else p - p'
theorem cmpSG (a b : ByteArray) (w : World) : Rets Try.prog 29 #[.string a, .string b] w fun u w' => u = .int .i64 (Lib.compareBytes a.data.toList b.data.toList) ∧ w = w' := by
  have hi : Rets Try.prog 41 #[.string a, .string b] w fun u w' => u = .int .i64 (Lib.compareBytes a.data.toList b.data.toList) ∧ w = w' := by
    refine rets_of Try.func41 rfl Try.ntmps41 rfl rfl (by kernel_rfl) ?_
    (apply vC_seq; apply vC_region; ((apply vL_val); (case h => ((apply opv_E); exact rfl))); apply vL_nil; apply seqP_normal; apply vC_seq; apply vC_region; (iterate 2 (((apply vL_val); (case h => ((apply opv_E); exact rfl))))))
    refine vL_val (opv_cmp31 rfl rfl) ?_
    (((apply vL_val); (case h => ((apply opv_E); exact rfl))); apply vL_nil; apply seqP_normal; apply vC_ret)
    (apply ret1; (case h1 => (exact norm_eq rfl)))
    exact ⟨rfl, rfl⟩
  refine rets_of Try.func29 rfl Try.ntmps29 rfl rfl (by kernel_rfl) ?_
  (apply vC_seq; apply vC_region; ((apply vL_val); (case h => ((apply opv_E); exact rfl))); apply vL_nil; apply seqP_normal; apply vC_seq; apply vC_region; (iterate 2 (((apply vL_val); (case h => ((apply opv_E); exact rfl))))))
  refine vL_callF rfl (hi) rfl ?_
  rintro _ _ ⟨rfl, rfl⟩
  (((apply vL_val); (case h => ((apply opv_E); exact rfl))); apply vL_nil; apply seqP_normal; apply vC_ret)
  (apply ret1; (case h1 => (exact norm_eq rfl)))
  exact ⟨rfl, rfl⟩
theorem compareG (t : ByteArray) (p : Int) (t' : ByteArray) (p' : Int) (w : World) (hp : 0 ≤ p ∧ p ≤ 1000) (hp' : 0 ≤ p' ∧ p' ≤ 1000) : Rets Try.prog 12 #[.agg #[.string t, .int .i64 p], .agg #[.string t', .int .i64 p']] w fun u w' => u = .int .i64 (cmpP t p t' p') ∧ Fr No w w' := by
  refine rets_of Try.func12 rfl Try.ntmps12 rfl rfl (by kernel_rfl) ?_
  (apply vC_seq; apply vC_region; (iterate 2 (((apply vL_val); (case h => ((apply opw_boxn); exact rfl))))); ((apply vL_val); (case h => ((apply opv_E); exact rfl))); apply vL_nil; apply seqP_normal; (iterate 2 (apply vC_seq)); apply vC_region; ((apply vL_val); (case h => ((apply opv_fieldAddr); exact rfl))); ((apply vL_val); (case h => ((apply opv_loadb1); exact rfl; exact rfl; infer_instance; exact rfl))); ((apply vL_val); (case h => ((apply opv_fieldAddr); exact rfl))); ((apply vL_val); (case h => ((apply opv_loadb1); exact rfl; exact rfl; infer_instance; exact rfl))))
  refine vL_gen (fun w' => Fr No w w' ∧ Blk w'.heap w.heap.size [.string t, .int .i64 p] 36 ∧ Blk w'.heap (w.alloc (.cells #[.string t, .int .i64 p] 36)).heap.size [.string t', .int .i64 p'] 36) ⟨by ((iterate 2 (apply Fr.alloc)); exact Fr.refl _ _), inferInstance, inferInstance⟩ ?_
  rintro w1 ⟨hf1, h1, h2⟩
  generalize (w.alloc (.cells #[.string t, .int .i64 p] 36)).heap.size = b2 at h2 ⊢
  generalize w.heap.size = b1 at h1 ⊢
  refine vL_callF rfl (cmpSG t t' w1) rfl ?_
  rintro _ _ ⟨rfl, rfl⟩
  unfold cmpP
  generalize Lib.compareBytes t.data.toList t'.data.toList = z
  by_cases hz : z = 0
  · (((apply vL_val); (case h => ((apply opv_E); exact rfl))); apply vL_nil; apply seqP_normal; apply vC_seq; apply vC_region; (iterate 2 (((apply vL_val); (case h => ((apply opv_E); exact rfl))))); apply vL_nil; apply seqP_normal; (refine vC_cond_dec rfl (fun h => by omega) (fun _ => ?_)); apply vC_skip; apply seqP_normal; apply vC_seq; apply vC_region; ((apply vL_val); (case h => ((apply opv_fieldAddr); exact rfl))); ((apply vL_val); (case h => ((apply opv_loadb1); exact rfl; exact rfl; assumption; exact rfl))); ((apply vL_val); (case h => ((apply opv_fieldAddr); exact rfl))); ((apply vL_val); (case h => ((apply opv_loadb1); exact rfl; exact rfl; assumption; exact rfl))); ((apply vL_val); (case h => ((apply opv_sub); exact rfl; exact rfl; (first | omega | (simp only [List.length_map]; omega))))); ((apply vL_val); (case h => ((apply opv_E); exact rfl))); apply vL_nil; apply seqP_normal; apply vC_ret)
    (apply ret1; (case h1 => (exact norm_eq rfl)))
    exact ⟨by rw [if_neg (by omega)], hf1⟩
  · (((apply vL_val); (case h => ((apply opv_E); exact rfl))); apply vL_nil; apply seqP_normal; apply vC_seq; apply vC_region; (iterate 2 (((apply vL_val); (case h => ((apply opv_E); exact rfl))))); apply vL_nil; apply seqP_normal; (refine vC_cond_dec rfl (fun _ => ?_) (fun h => by omega)); apply vC_seq; apply vC_region; (iterate 2 (((apply vL_val); (case h => ((apply opv_E); exact rfl))))); apply vL_nil; apply seqP_normal; apply vC_ret; apply seqP_ret)
    (apply ret1; (case h1 => (exact norm_eq rfl)))
    exact ⟨by rw [if_pos hz], hf1⟩
def atP (t : ByteArray) (p : Int) (x : WT) : Bool := decide (x.rq.k = 1) && (decide (x.rq.topic = t) && (decide (x.rq.part = p) && true))
theorem prodcG (x : WT) (b : Nat) (t : ByteArray) (p : Int) (w : World) (hb : Blk w.heap b [.string t, .int .i64 p] 36) : Rets Try.prog 44 #[.agg (wtE x).toArray, .pointer (some ⟨b, 0, none⟩)] w fun u w' => u = .bool (atP t p x) ∧ Fr No w w' := by
  have hbv := x.rq.brv.2
  have htv := x.rq.trv.2
  unfold atP
  refine rets_of Try.func44 rfl Try.ntmps44 rfl rfl (by kernel_rfl) ?_
  (apply vC_seq; apply vC_region; ((apply vL_val); (case h => ((apply opw_boxn); exact rfl))); ((apply vL_val); (case h => ((apply opv_E); exact rfl))); apply vL_nil; apply seqP_normal; apply vC_seq)
  refine vC_gen (fun w' => Fr No w w' ∧ Blk w'.heap w.heap.size (wtE x) 42) ⟨by (apply Fr.alloc; exact Fr.refl _ _), inferInstance⟩ ?_
  rintro w1 ⟨hf1, h1⟩
  have hb1 := hb.frN hf1
  generalize w.heap.size = b2 at h1 ⊢
  by_cases hk : x.rq.k = 1
  rotate_left
  · (with_reducible apply vC_drawQ); ((iterate 2 (((apply vQ_op); (case hi => exact rfl); (case hf => kernel_rfl); (case hS => exact Dr.refl _); (case hy => (intro j; ((apply opv_fieldAddr); exact rfl)))))); ((apply vQ_op); (case hi => exact rfl); (case hf => kernel_rfl); (case hS => exact Dr.refl _); (case hy => (intro j; ((apply opv_loadb1); exact rfl; exact rfl; assumption; exact rfl)))); (iterate 2 (((apply vQ_op); (case hi => exact rfl); (case hf => kernel_rfl); (case hS => exact Dr.refl _); (case hy => (intro j; ((apply opv_E); exact rfl)))))); (refine vQ_gF rfl rfl rfl (by omega) ?_); (iterate 5 (((apply vQ_unwanted); (case hi => exact rfl); (case hg => exact rfl); (case hne => exact rfl); (case hf => kernel_rfl); (case hS => exact Dr.refl _)))); (iterate 2 (((apply vQ_op); (case hi => exact rfl); (case hf => kernel_rfl); (case hS => exact Dr.refl _); (case hy => (intro j; ((apply opv_E); exact rfl)))))); ((apply vQ_end); (case hi => exact rfl); (case hf => kernel_rfl); (case hS => exact Dr.refl _)))
    (apply seqP_normal; apply vC_ret)
    (apply ret1; (case h1 => (exact norm_eq rfl)))
    exact ⟨by rw [decide_eq_false hk]; rfl, hf1.drew⟩
  refine vC_draw' (fun wf => Fr No w1 wf) ((Fr.refl No w1).drew) ?_
  ((apply (tk 0)); (case hi => exact rfl); (case hf => kernel_rfl); (case hS => (apply Fr.drew; exact Fr.refl _ _)); (case hy => (intro wf hwf; haveI := From.mk hwf; (((apply opv_fieldAddr); exact rfl)))))
  ((apply (tk 1)); (case hi => exact rfl); (case hf => kernel_rfl); (case hS => (apply Fr.drew; exact Fr.refl _ _)); (case hy => (intro wf hwf; haveI := From.mk hwf; (((apply opv_fieldAddr); exact rfl)))))
  ((apply (tk 2)); (case hi => exact rfl); (case hf => kernel_rfl); (case hS => (apply Fr.drew; exact Fr.refl _ _)); (case hy => (intro wf hwf; haveI := From.mk hwf; (((apply opv_loadb1); exact rfl; exact rfl; infer_instance; exact rfl)))))
  ((apply (tk 3)); (case hi => exact rfl); (case hf => kernel_rfl); (case hS => (apply Fr.drew; exact Fr.refl _ _)); (case hy => (intro wf hwf; haveI := From.mk hwf; (((apply opv_E); exact rfl)))))
  ((apply (tk 4)); (case hi => exact rfl); (case hf => kernel_rfl); (case hS => (apply Fr.drew; exact Fr.refl _ _)); (case hy => (intro wf hwf; haveI := From.mk hwf; (((apply opv_E); exact rfl)))))
  refine vA_split 8 rfl (fun _ => ?_) (fun h => absurd hk h)
  ((apply (tkw 5)); (case hi => exact rfl); (case hg => exact rfl); (case hf => kernel_rfl); (case hS => (apply Fr.drew; exact Fr.refl _ _)); (case hy => (intro wf hwf; haveI := From.mk hwf; (((apply opv_fieldAddr); exact rfl)))))
  ((apply (tkw 6)); (case hi => exact rfl); (case hg => exact rfl); (case hf => kernel_rfl); (case hS => (apply Fr.drew; exact Fr.refl _ _)); (case hy => (intro wf hwf; exact opv_loadbC (cs := rqE x.rq) rfl rfl (h1.frN hwf) rfl rfl)))
  ((apply (tkw 8)); (case hi => exact rfl); (case hg => exact rfl); (case hf => kernel_rfl); (case hS => (apply Fr.drew; exact Fr.refl _ _)); (case hy => (intro wf hwf; haveI := From.mk hwf; (((apply opv_loadbC); exact rfl; exact rfl; infer_instance; exact (rfl : _ = [_, _]); exact rfl)))))
  (refine tkcw 7 rfl rfl (by kernel_rfl) (by (apply Fr.drew; exact Fr.refl _ _)) rfl (of31 x.rq _) rfl ?_)
  rintro _ w2 ⟨rfl, hf2⟩
  have hf12 : Fr No w1 w2 := (Fr.refl No w1).drew.trans hf2
  ((apply (tkw 9)); (case hi => exact rfl); (case hg => exact rfl); (case hf => kernel_rfl); (case hS => (assumption)); (case hy => (intro wf hwf; haveI := From.mk hwf; (((apply opv_eql_agg); exact rfl; exact rfl; (first | exact ⟨rfl, rfl, trivial⟩ | exact ⟨rfl, trivial⟩ | exact ⟨rfl, rfl, rfl, trivial⟩ | exact ⟨rfl, rfl, rfl, rfl, trivial⟩ | exact ⟨rfl, rfl, rfl, rfl, rfl, trivial⟩); (first | exact ⟨rfl, rfl, trivial⟩ | exact ⟨rfl, trivial⟩ | exact ⟨rfl, rfl, rfl, trivial⟩ | exact ⟨rfl, rfl, rfl, rfl, trivial⟩ | exact ⟨rfl, rfl, rfl, rfl, rfl, trivial⟩))))))
  ((apply (tk 10)); (case hi => exact rfl); (case hf => kernel_rfl); (case hS => (assumption)); (case hy => (intro wf hwf; haveI := From.mk hwf; (((apply opv_E); exact rfl)))))
  ((apply (tk 11)); (case hi => exact rfl); (case hf => kernel_rfl); (case hS => (assumption)); (case hy => (intro wf hwf; haveI := From.mk hwf; (((apply opv_E); exact rfl)))))
  refine vA_done (by kernel_rfl) (by (first | exact trivial | ((assumption); done))) ?_
  (apply seqP_normal; apply vC_ret)
  (apply ret1; (case h1 => (exact norm_eq rfl)))
  exact ⟨by rw [decide_eq_true hk]; rfl, hf1.trans hf12⟩
theorem contG (v fv : Value) (xs : List WT) (b : Nat) (t : ByteArray) (p : Int) (w : World) (hr : Rd w.heap 26 wtE v xs) (hb : Blk w.heap b [.string t, .int .i64 p] 36) (hfv : fv = .func (.func 44) #[] #[.pointer (some ⟨b, 0, none⟩)]) : Rets Try.prog 32 #[v, fv] w fun u w' => u = .bool (xs.any (atP t p)) ∧ Fr No w w' := by
  subst hfv
  obtain ⟨va, vc, ev⟩ := hr.len
  refine rets_of Try.func32 rfl Try.ntmps32 rfl rfl (by kernel_rfl) ?_
  (apply vC_seq; apply vC_region; ((apply vL_val); (case h => ((apply opv_E); exact rfl))); apply vL_nil; apply seqP_normal; apply vC_seq; apply vC_region; ((apply vL_val); (case h => ((apply opv_move); ((conv => lhs; whnf) <;> exact rfl)))); ((apply vL_val); (case h => ((apply opv_E); exact rfl))))
  refine vL_callF rfl (indexFunc_wt _ _ (atP t p) xs _ 44 [.pointer (some ⟨b, 0, none⟩)] hr rfl (fun y w1 hy hf => prodcG y b t p w1 (hb.frN hf))) rfl ?_
  rintro _ w2 ⟨hf2, ⟨rfl, h⟩ | ⟨k, rfl, hk, ⟨y, hy, hp⟩, _⟩⟩
  · ((iterate 2 (((apply vL_val); (case h => ((apply opv_E); exact rfl))))); apply vL_nil; apply seqP_normal; apply vC_ret)
    (apply ret1; (case h1 => (exact norm_eq rfl)))
    refine ⟨congrArg Value.bool ?_, hf2⟩
    rw [decide_eq_false (by omega)]
    exact (List.any_eq_false.2 (fun y hy => by rw [h y hy]; decide)).symm
  · ((iterate 2 (((apply vL_val); (case h => ((apply opv_E); exact rfl))))); apply vL_nil; apply seqP_normal; apply vC_ret)
    (apply ret1; (case h1 => (exact norm_eq rfl)))
    refine ⟨congrArg Value.bool ?_, hf2⟩
    rw [decide_eq_true (by omega)]
    exact (List.any_eq_true.2 ⟨y, List.mem_of_getElem? hy, hp⟩).symm
end Go.Proofs.Ytchfaeaagpemlaa

set_option maxRecDepth 100000
namespace Go.Proofs.Ytchfaeaagpemlaa
open Go Go.Eng
def laOf (ws : List WT) : Nat → Int
  | 0 => 0
  | i + 1 => match ws[i]? with
    | some y => y.rq.call
    | none => 0
def WOkG (id next brokers : Int) (ws : List WT) (i : Nat) (x : WT) : Prop := (laOf ws i < x.rq.call ∧ x.rq.call < next ∧ x.rq.cl = id ∧ 1 ≤ x.rq.k ∧ x.rq.k ≤ 6 ∧ 0 ≤ x.due ∧ x.due ≤ 1099511627784) ∧ (1 ≤ x.tries ∧ x.tries ≤ 10 ∧ 1 ≤ x.broker ∧ x.broker ≤ brokers) ∧ (x.rq.k = 1 → mayPB x.rq.topic x.rq.part = true ∧ 1 ≤ x.rq.pid ∧ mayB x.rq.pid x.rq.ep x.rq.fi (x.rq.brs.map (fun y => y.2.length)) = true ∧ (ws.take i).any (atP x.rq.topic x.rq.part) = false)
def WsG (id next brokers : Int) (ws : List WT) : Prop := (∀ (i : Nat) x, ws[i]? = some x → WOkG id next brokers ws i x) ∧ ws.length ≤ 8
noncomputable def wsB (id next brokers : Int) (ws : List WT) : Bool := @decide (WsG id next brokers ws) (Classical.propDecidable _)
theorem wsB_true {id next brokers : Int} {ws : List WT} (h : WsG id next brokers ws) : wsB id next brokers ws = true := @decide_eq_true _ (Classical.propDecidable _) h
theorem wsB_false {id next brokers : Int} {ws : List WT} (h : ¬ WsG id next brokers ws) : wsB id next brokers ws = false := @decide_eq_false _ (Classical.propDecidable _) h
theorem of_wsB {id next brokers : Int} {ws : List WT} (h : wsB id next brokers ws = true) : WsG id next brokers ws := @of_decide_eq_true _ (Classical.propDecidable _) h
set_option maxHeartbeats 4000000 in
theorem waitsG (c : CL) (w : World) (hr : ClRd w.heap c) (hz : ∀ x ∈ c.ws, x.rq.topic.size ≤ 9223372036854775807) : Rets Try.prog 13 #[.agg (clE c).toArray] w fun u w' => u = .bool (wsB c.id c.next c.brokers c.ws) ∧ Fr No w w' := by
  have hw0 := c.wv.2
  have hs0 := c.sv.2
  have hsm := hr.1.small
  refine rets_of Try.func13 rfl Try.ntmps13 rfl rfl (by kernel_rfl) ?_
  ((apply vC_seq; apply vC_region)); ((((apply vL_val); (case h => ((apply opw_boxn); exact rfl))); ((apply vL_val); (case h => ((apply opv_E); exact rfl))); apply vL_nil)); with_reducible apply seqP_normal
  ((apply vC_seq; apply vC_region))
  refine vL_gen (fun w' => Fr No w w' ∧ Blk w'.heap w.heap.size (clE c) 25) ⟨by (apply Fr.alloc; exact Fr.refl _ _), inferInstance⟩ ?_
  rintro w1 ⟨hf1, hb1⟩
  generalize w.heap.size = b1 at hb1 ⊢
  have hr1 := hr.1.frN hf1
  (((apply vL_val); (case h => ((apply opv_E); exact rfl))); apply vL_nil; apply seqP_normal; (iterate 2 (apply vC_seq)); apply vC_region; ((apply vL_val); (case h => ((apply opv_fieldAddr); exact rfl))); ((apply vL_val); (case h => ((apply opv_loadb1); exact rfl; exact rfl; assumption; exact rfl))); ((apply vL_val); (case h => ((apply opv_len); ((conv => lhs; whnf) <;> exact rfl); assumption))); ((apply vL_val); (case h => ((apply opv_E); exact rfl))); apply vL_nil; apply seqP_normal; apply vC_block)
  (apply vC_loop2 649037107316853453566312041151612 3 10 (fun u v w' => ∃ (i : Nat), u = .int .i64 (laOf c.ws i) ∧ v = .int .i64 i ∧ i ≤ c.ws.length ∧ Fr No w w' ∧ Blk w'.heap b1 (clE c) 25 ∧ ∀ (j : Nat) x, j < i → c.ws[j]? = some x → WOkG c.id c.next c.brokers c.ws j x) (fun _ v _ => c.ws.length - (RowKit.intOf v).toNat)); (case h1 => (exact norm_eq rfl)); (case h2 => (exact norm_eq rfl))
  case h0 => exact ⟨0, rfl, rfl, Nat.zero_le _, hf1, hb1, fun j x hj => absurd hj (Nat.not_lt_zero _)⟩
  case round =>
  rintro junk _ _ w2 ⟨i, rfl, rfl, hi, hf2, hb2, hok⟩
  have hr2 := hr.1.frN hf2
  by_cases hil : i < c.ws.length
  rotate_left
  · have hli : c.ws.length = i := by omega
    have hall : ∀ (j : Nat) x, c.ws[j]? = some x → WOkG c.id c.next c.brokers c.ws j x := fun j x hj => hok j x (by have := (List.getElem?_eq_some_iff.1 hj).1; omega) hj
    (apply vC_seq; apply vC_region; ((apply vL_val); (case h => ((apply opv_E); exact rfl))); apply vL_nil; apply seqP_normal; apply vC_seq; (refine vC_cond_dec rfl (fun h => by omega) (fun _ => ?_)); apply vC_exit; apply seqP_exit; apply loopP_exit; apply blockP_exit; apply seqP_normal; apply vC_seq; apply vC_region; ((apply vL_val); (case h => ((apply opv_fieldAddr); exact rfl))); ((apply vL_val); (case h => ((apply opv_loadb1); exact rfl; exact rfl; assumption; exact rfl))); ((apply vL_val); (case h => ((apply opv_len); ((conv => lhs; whnf) <;> exact rfl); assumption))); (iterate 2 (((apply vL_val); (case h => ((apply opv_E); exact rfl))))); apply vL_nil; apply seqP_normal; apply vC_ret)
    (apply ret1; (case h1 => (exact norm_eq rfl)))
    refine ⟨congrArg Value.bool ?_, hf2⟩
    by_cases h8 : c.ws.length ≤ 8
    · rw [decide_eq_true (by omega), wsB_true ⟨hall, h8⟩]
    · rw [decide_eq_false (by omega), wsB_false (fun H => h8 H.2)]
  obtain ⟨x, hxi⟩ : ∃ x, c.ws[i]? = some x := ⟨c.ws[i], List.getElem?_eq_getElem hil⟩
  have hxi' : c.ws[((i : Nat) : Int).toNat]? = some x := hxi
  have hxm := List.mem_of_getElem? hxi
  have hxz := hz x hxm
  have hla1 : laOf c.ws (i + 1) = x.rq.call := by show (match c.ws[i]? with | some y => y.rq.call | none => 0) = _; rw [hxi]
  have hbv := x.rq.brv.2
  have htv := x.rq.trv.2
  have hrq := (hr.2.1 x hxm).frN hf2
  have nope : ¬ WOkG c.id c.next c.brokers c.ws i x → wsB c.id c.next c.brokers c.ws = false := fun h => wsB_false (fun H => h (H.1 i x hxi))
  obtain ⟨la, ela⟩ : ∃ la, la = laOf c.ws i := ⟨_, rfl⟩
  rw [← ela]
  ((apply vC_seq; apply vC_region)); ((((apply vL_val); (case h => ((apply opv_E); exact rfl))); apply vL_nil)); with_reducible apply seqP_normal
  ((apply vC_seq))
  refine vC_condT rfl (decide_eq_true (by omega)) ?_
  ((apply vC_skip; apply seqP_normal; apply vC_seq; apply vC_block; apply vC_seq; apply vC_region))
  ((((apply vL_val); (case h => ((apply opv_E); exact rfl))); ((apply vL_val); (case h => ((apply opv_indexAddr); ((conv => lhs; whnf) <;> exact rfl); exact rfl; assumption; (first | omega | (simp only [List.length_map]; omega)); (first | omega | (simp only [List.length_map]; omega))))); ((apply vL_val); (case h => ((apply opv_ld_eln); exact rfl; exact rfl; assumption; assumption))); ((apply vL_val); (case h => (apply opw_alloc))); ((apply vL_val); (case h => ((apply opv_E); exact rfl))); ((apply vL_skip); (case h => ((apply ops_storen); exact norm_eq rfl; exact norm_eq rfl; exact rfl; exact (fun u hu => EncOk.one _ u hu); infer_instance; (first | decide | exact of_decide_eq_true rfl | (simp; done))))); apply vL_nil)); with_reducible apply seqP_normal
  ((apply vC_seq; apply vC_region))
  refine vL_gen (fun w' => Fr No w2 w' ∧ w2.heap.size < w'.heap.size ∧ Blk w'.heap w2.heap.size (wtE x) 42) ⟨by (apply Fr.allocSet; exact Fr.refl _ _), by simp, Blk.as inferInstance rfl⟩ ?_
  rintro w3 ⟨hf3, hz3, h53⟩
  have hb3 := hb2.frN hf3
  generalize w2.heap.size = b5 at hz3 h53 ⊢
  ((((apply vL_val); (case h => ((apply opv_fieldAddr); exact rfl))); ((apply vL_val); (case h => ((apply opv_loadb); exact rfl; exact rfl; assumption; exact rfl))); ((apply vL_val); (case h => (apply opw_alloc))); ((apply vL_skip); (case h => ((apply ops_storen); exact norm_eq rfl; exact norm_eq rfl; exact rfl; exact (fun u hu => EncOk.one _ u (List.mem_of_mem_drop (List.mem_of_mem_take hu))); infer_instance; (first | decide | exact of_decide_eq_true rfl | (simp; done))))); apply vL_nil)); with_reducible apply seqP_normal
  (((iterate 2 (apply vC_seq)); apply vC_region))
  refine vL_gen (fun w' => Fr No w3 w' ∧ w3.heap.size < w'.heap.size ∧ Blk w'.heap w3.heap.size (rqE x.rq) 40) ⟨by (apply Fr.allocSet; exact Fr.refl _ _), by simp, Blk.as inferInstance rfl⟩ ?_
  rintro w4 ⟨hf4, hz4, h64⟩
  have hb4 := hb3.frN hf4
  have h54 := h53.frN hf4
  generalize w3.heap.size = b6 at hz4 h64 ⊢
  have hf24 := hf3.trans hf4
  have hrq4 := hrq.frN hf24
  have hr4 := hr2.frN hf24
  have hfw4 := hf2.trans hf24
  clear hrq hr2 hb3 hb2 h53 hr1 hf1 hf2 hf3 hf4
  rcases (by omega : x.rq.call ≤ la ∨ (la < x.rq.call ∧ c.next ≤ x.rq.call) ∨ (la < x.rq.call ∧ x.rq.call < c.next ∧ x.rq.cl ≠ c.id) ∨ (la < x.rq.call ∧ x.rq.call < c.next ∧ x.rq.cl = c.id ∧ x.rq.k < 1) ∨ (la < x.rq.call ∧ x.rq.call < c.next ∧ x.rq.cl = c.id ∧ 1 ≤ x.rq.k ∧ 6 < x.rq.k) ∨ (la < x.rq.call ∧ x.rq.call < c.next ∧ x.rq.cl = c.id ∧ 1 ≤ x.rq.k ∧ x.rq.k ≤ 6 ∧ x.due < 0) ∨ (la < x.rq.call ∧ x.rq.call < c.next ∧ x.rq.cl = c.id ∧ 1 ≤ x.rq.k ∧ x.rq.k ≤ 6 ∧ 0 ≤ x.due ∧ 1099511627784 < x.due) ∨ (la < x.rq.call ∧ x.rq.call < c.next ∧ x.rq.cl = c.id ∧ 1 ≤ x.rq.k ∧ x.rq.k ≤ 6 ∧ 0 ≤ x.due ∧ x.due ≤ 1099511627784)) with h | h | h | h | h | h | h | h1
  · (((apply vL_val); (case h => ((apply opv_fieldAddr); exact rfl))); ((apply vL_val); (case h => ((apply opv_loadb1); exact rfl; exact rfl; assumption; exact rfl))); (iterate 3 (((apply vL_val); (case h => ((apply opv_E); exact rfl))))); (refine vL_or rfl rfl (fun h => by omega) (fun _ => ?_)); (iterate 4 (((apply vL_unwanted'); exact rfl; exact rfl))); (iterate 2 (((apply vL_val); (case h => ((apply opv_E); exact rfl))))); (iterate 5 (((apply vL_unwanted'); exact rfl; exact rfl))); (iterate 2 (((apply vL_val); (case h => ((apply opv_E); exact rfl))))); (iterate 3 (((apply vL_unwanted'); exact rfl; exact rfl))); (iterate 2 (((apply vL_val); (case h => ((apply opv_E); exact rfl))))); (iterate 3 (((apply vL_unwanted'); exact rfl; exact rfl))); (iterate 2 (((apply vL_val); (case h => ((apply opv_E); exact rfl))))); (iterate 3 (((apply vL_unwanted'); exact rfl; exact rfl))); (iterate 2 (((apply vL_val); (case h => ((apply opv_E); exact rfl))))); (iterate 3 (((apply vL_unwanted'); exact rfl; exact rfl))); ((apply vL_val); (case h => ((apply opv_E); exact rfl))); apply vL_nil; apply seqP_normal; ((apply vC_cond_true); exact rfl); apply vC_seq; apply vC_region; ((apply vL_val); (case h => ((apply opv_E); exact rfl))); apply vL_nil; apply seqP_normal; apply vC_ret; apply seqP_ret; apply blockP_ret; apply seqP_ret; apply loopP_ret; apply blockP_ret; apply seqP_ret)
    (apply ret1; (case h1 => (exact norm_eq rfl)))
    exact ⟨by rw [nope (fun H => by have := H.1; omega)], hfw4⟩
  · (((apply vL_val); (case h => ((apply opv_fieldAddr); exact rfl))); ((apply vL_val); (case h => ((apply opv_loadb1); exact rfl; exact rfl; assumption; exact rfl))); (iterate 3 (((apply vL_val); (case h => ((apply opv_E); exact rfl))))); (refine vL_or rfl rfl (fun _ => ?_) (fun h => by omega)); ((apply vL_val); (case h => ((apply opv_fieldAddr); exact rfl))); ((apply vL_wanted); exact rfl); ((apply vL_val); (case h => ((apply opv_loadb1); exact rfl; exact rfl; assumption; exact rfl))); ((apply vL_wanted); exact rfl); ((apply vL_val); (case h => ((apply opv_fieldAddr); exact rfl))); ((apply vL_wanted); exact rfl); ((apply vL_val); (case h => ((apply opv_loadb1); exact rfl; exact rfl; assumption; exact rfl))); ((apply vL_wanted); exact rfl); (iterate 3 (((apply vL_val); (case h => ((apply opv_E); exact rfl))))); (refine vL_or rfl rfl (fun h => by omega) (fun _ => ?_)); (iterate 4 (((apply vL_unwanted'); exact rfl; exact rfl))); (iterate 2 (((apply vL_val); (case h => ((apply opv_E); exact rfl))))); (iterate 3 (((apply vL_unwanted'); exact rfl; exact rfl))); (iterate 2 (((apply vL_val); (case h => ((apply opv_E); exact rfl))))); (iterate 3 (((apply vL_unwanted'); exact rfl; exact rfl))); (iterate 2 (((apply vL_val); (case h => ((apply opv_E); exact rfl))))); (iterate 3 (((apply vL_unwanted'); exact rfl; exact rfl))); (iterate 2 (((apply vL_val); (case h => ((apply opv_E); exact rfl))))); (iterate 3 (((apply vL_unwanted'); exact rfl; exact rfl))); ((apply vL_val); (case h => ((apply opv_E); exact rfl))); apply vL_nil; apply seqP_normal; ((apply vC_cond_true); exact rfl); apply vC_seq; apply vC_region; ((apply vL_val); (case h => ((apply opv_E); exact rfl))); apply vL_nil; apply seqP_normal; apply vC_ret; apply seqP_ret; apply blockP_ret; apply seqP_ret; apply loopP_ret; apply blockP_ret; apply seqP_ret)
    (apply ret1; (case h1 => (exact norm_eq rfl)))
    exact ⟨by rw [nope (fun H => by have := H.1; omega)], hfw4⟩
  · (((apply vL_val); (case h => ((apply opv_fieldAddr); exact rfl))); ((apply vL_val); (case h => ((apply opv_loadb1); exact rfl; exact rfl; assumption; exact rfl))); (iterate 3 (((apply vL_val); (case h => ((apply opv_E); exact rfl))))); (refine vL_or rfl rfl (fun _ => ?_) (fun h => by omega)); ((apply vL_val); (case h => ((apply opv_fieldAddr); exact rfl))); ((apply vL_wanted); exact rfl); ((apply vL_val); (case h => ((apply opv_loadb1); exact rfl; exact rfl; assumption; exact rfl))); ((apply vL_wanted); exact rfl); ((apply vL_val); (case h => ((apply opv_fieldAddr); exact rfl))); ((apply vL_wanted); exact rfl); ((apply vL_val); (case h => ((apply opv_loadb1); exact rfl; exact rfl; assumption; exact rfl))); ((apply vL_wanted); exact rfl); (iterate 3 (((apply vL_val); (case h => ((apply opv_E); exact rfl))))); (refine vL_or rfl rfl (fun _ => ?_) (fun h => by omega)); ((apply vL_val); (case h => ((apply opv_fieldAddr); exact rfl))); ((apply vL_wanted); exact rfl); ((apply vL_val); (case h => ((apply opv_loadb1); exact rfl; exact rfl; assumption; exact rfl))); ((apply vL_wanted); exact rfl); ((apply vL_val); (case h => ((apply opv_fieldAddr); exact rfl))); ((apply vL_wanted); exact rfl); ((apply vL_val); (case h => ((apply opv_loadb1); exact rfl; exact rfl; assumption; exact rfl))); ((apply vL_wanted); exact rfl); (iterate 3 (((apply vL_val); (case h => ((apply opv_E); exact rfl))))); (refine vL_or rfl rfl (fun h => by omega) (fun _ => ?_)); (iterate 2 (((apply vL_unwanted'); exact rfl; exact rfl))); (iterate 2 (((apply vL_val); (case h => ((apply opv_E); exact rfl))))); (iterate 3 (((apply vL_unwanted'); exact rfl; exact rfl))); (iterate 2 (((apply vL_val); (case h => ((apply opv_E); exact rfl))))); (iterate 3 (((apply vL_unwanted'); exact rfl; exact rfl))); (iterate 2 (((apply vL_val); (case h => ((apply opv_E); exact rfl))))); (iterate 3 (((apply vL_unwanted'); exact rfl; exact rfl))); ((apply vL_val); (case h => ((apply opv_E); exact rfl))); apply vL_nil; apply seqP_normal; ((apply vC_cond_true); exact rfl); apply vC_seq; apply vC_region; ((apply vL_val); (case h => ((apply opv_E); exact rfl))); apply vL_nil; apply seqP_normal; apply vC_ret; apply seqP_ret; apply blockP_ret; apply seqP_ret; apply loopP_ret; apply blockP_ret; apply seqP_ret)
    (apply ret1; (case h1 => (exact norm_eq rfl)))
    exact ⟨by rw [nope (fun H => by have := H.1; omega)], hfw4⟩
  · (((apply vL_val); (case h => ((apply opv_fieldAddr); exact rfl))); ((apply vL_val); (case h => ((apply opv_loadb1); exact rfl; exact rfl; assumption; exact rfl))); (iterate 3 (((apply vL_val); (case h => ((apply opv_E); exact rfl))))); (refine vL_or rfl rfl (fun _ => ?_) (fun h => by omega)); ((apply vL_val); (case h => ((apply opv_fieldAddr); exact rfl))); ((apply vL_wanted); exact rfl); ((apply vL_val); (case h => ((apply opv_loadb1); exact rfl; exact rfl; assumption; exact rfl))); ((apply vL_wanted); exact rfl); ((apply vL_val); (case h => ((apply opv_fieldAddr); exact rfl))); ((apply vL_wanted); exact rfl); ((apply vL_val); (case h => ((apply opv_loadb1); exact rfl; exact rfl; assumption; exact rfl))); ((apply vL_wanted); exact rfl); (iterate 3 (((apply vL_val); (case h => ((apply opv_E); exact rfl))))); (refine vL_or rfl rfl (fun _ => ?_) (fun h => by omega)); ((apply vL_val); (case h => ((apply opv_fieldAddr); exact rfl))); ((apply vL_wanted); exact rfl); ((apply vL_val); (case h => ((apply opv_loadb1); exact rfl; exact rfl; assumption; exact rfl))); ((apply vL_wanted); exact rfl); ((apply vL_val); (case h => ((apply opv_fieldAddr); exact rfl))); ((apply vL_wanted); exact rfl); ((apply vL_val); (case h => ((apply opv_loadb1); exact rfl; exact rfl; assumption; exact rfl))); ((apply vL_wanted); exact rfl); (iterate 3 (((apply vL_val); (case h => ((apply opv_E); exact rfl))))); (refine vL_or rfl rfl (fun _ => ?_) (fun h => by omega)); ((apply vL_val); (case h => ((apply opv_fieldAddr); exact rfl))); ((apply vL_wanted); exact rfl); ((apply vL_val); (case h => ((apply opv_loadb1); exact rfl; exact rfl; assumption; exact rfl))); ((apply vL_wanted); exact rfl); (iterate 3 (((apply vL_val); (case h => ((apply opv_E); exact rfl))))); (refine vL_or rfl rfl (fun h => by omega) (fun _ => ?_)); (iterate 2 (((apply vL_unwanted'); exact rfl; exact rfl))); (iterate 2 (((apply vL_val); (case h => ((apply opv_E); exact rfl))))); (iterate 3 (((apply vL_unwanted'); exact rfl; exact rfl))); (iterate 2 (((apply vL_val); (case h => ((apply opv_E); exact rfl))))); (iterate 3 (((apply vL_unwanted'); exact rfl; exact rfl))); ((apply vL_val); (case h => ((apply opv_E); exact rfl))); apply vL_nil; apply seqP_normal; ((apply vC_cond_true); exact rfl); apply vC_seq; apply vC_region; ((apply vL_val); (case h => ((apply opv_E); exact rfl))); apply vL_nil; apply seqP_normal; apply vC_ret; apply seqP_ret; apply blockP_ret; apply seqP_ret; apply loopP_ret; apply blockP_ret; apply seqP_ret)
    (apply ret1; (case h1 => (exact norm_eq rfl)))
    exact ⟨by rw [nope (fun H => by have := H.1; omega)], hfw4⟩
  · (((apply vL_val); (case h => ((apply opv_fieldAddr); exact rfl))); ((apply vL_val); (case h => ((apply opv_loadb1); exact rfl; exact rfl; assumption; exact rfl))); (iterate 3 (((apply vL_val); (case h => ((apply opv_E); exact rfl))))); (refine vL_or rfl rfl (fun _ => ?_) (fun h => by omega)); ((apply vL_val); (case h => ((apply opv_fieldAddr); exact rfl))); ((apply vL_wanted); exact rfl); ((apply vL_val); (case h => ((apply opv_loadb1); exact rfl; exact rfl; assumption; exact rfl))); ((apply vL_wanted); exact rfl); ((apply vL_val); (case h => ((apply opv_fieldAddr); exact rfl))); ((apply vL_wanted); exact rfl); ((apply vL_val); (case h => ((apply opv_loadb1); exact rfl; exact rfl; assumption; exact rfl))); ((apply vL_wanted); exact rfl); (iterate 3 (((apply vL_val); (case h => ((apply opv_E); exact rfl))))); (refine vL_or rfl rfl (fun _ => ?_) (fun h => by omega)); ((apply vL_val); (case h => ((apply opv_fieldAddr); exact rfl))); ((apply vL_wanted); exact rfl); ((apply vL_val); (case h => ((apply opv_loadb1); exact rfl; exact rfl; assumption; exact rfl))); ((apply vL_wanted); exact rfl); ((apply vL_val); (case h => ((apply opv_fieldAddr); exact rfl))); ((apply vL_wanted); exact rfl); ((apply vL_val); (case h => ((apply opv_loadb1); exact rfl; exact rfl; assumption; exact rfl))); ((apply vL_wanted); exact rfl); (iterate 3 (((apply vL_val); (case h => ((apply opv_E); exact rfl))))); (refine vL_or rfl rfl (fun _ => ?_) (fun h => by omega)); ((apply vL_val); (case h => ((apply opv_fieldAddr); exact rfl))); ((apply vL_wanted); exact rfl); ((apply vL_val); (case h => ((apply opv_loadb1); exact rfl; exact rfl; assumption; exact rfl))); ((apply vL_wanted); exact rfl); (iterate 3 (((apply vL_val); (case h => ((apply opv_E); exact rfl))))); (refine vL_or rfl rfl (fun _ => ?_) (fun h => by omega)); ((apply vL_val); (case h => ((apply opv_fieldAddr); exact rfl))); ((apply vL_wanted); exact rfl); ((apply vL_val); (case h => ((apply opv_loadb1); exact rfl; exact rfl; assumption; exact rfl))); ((apply vL_wanted); exact rfl); (iterate 3 (((apply vL_val); (case h => ((apply opv_E); exact rfl))))); (refine vL_or rfl rfl (fun h => by omega) (fun _ => ?_)); (iterate 2 (((apply vL_unwanted'); exact rfl; exact rfl))); (iterate 2 (((apply vL_val); (case h => ((apply opv_E); exact rfl))))); (iterate 3 (((apply vL_unwanted'); exact rfl; exact rfl))); ((apply vL_val); (case h => ((apply opv_E); exact rfl))); apply vL_nil; apply seqP_normal; ((apply vC_cond_true); exact rfl); apply vC_seq; apply vC_region; ((apply vL_val); (case h => ((apply opv_E); exact rfl))); apply vL_nil; apply seqP_normal; apply vC_ret; apply seqP_ret; apply blockP_ret; apply seqP_ret; apply loopP_ret; apply blockP_ret; apply seqP_ret)
    (apply ret1; (case h1 => (exact norm_eq rfl)))
    exact ⟨by rw [nope (fun H => by have := H.1; omega)], hfw4⟩
  · (((apply vL_val); (case h => ((apply opv_fieldAddr); exact rfl))); ((apply vL_val); (case h => ((apply opv_loadb1); exact rfl; exact rfl; assumption; exact rfl))); (iterate 3 (((apply vL_val); (case h => ((apply opv_E); exact rfl))))); (refine vL_or rfl rfl (fun _ => ?_) (fun h => by omega)); ((apply vL_val); (case h => ((apply opv_fieldAddr); exact rfl))); ((apply vL_wanted); exact rfl); ((apply vL_val); (case h => ((apply opv_loadb1); exact rfl; exact rfl; assumption; exact rfl))); ((apply vL_wanted); exact rfl); ((apply vL_val); (case h => ((apply opv_fieldAddr); exact rfl))); ((apply vL_wanted); exact rfl); ((apply vL_val); (case h => ((apply opv_loadb1); exact rfl; exact rfl; assumption; exact rfl))); ((apply vL_wanted); exact rfl); (iterate 3 (((apply vL_val); (case h => ((apply opv_E); exact rfl))))); (refine vL_or rfl rfl (fun _ => ?_) (fun h => by omega)); ((apply vL_val); (case h => ((apply opv_fieldAddr); exact rfl))); ((apply vL_wanted); exact rfl); ((apply vL_val); (case h => ((apply opv_loadb1); exact rfl; exact rfl; assumption; exact rfl))); ((apply vL_wanted); exact rfl); ((apply vL_val); (case h => ((apply opv_fieldAddr); exact rfl))); ((apply vL_wanted); exact rfl); ((apply vL_val); (case h => ((apply opv_loadb1); exact rfl; exact rfl; assumption; exact rfl))); ((apply vL_wanted); exact rfl); (iterate 3 (((apply vL_val); (case h => ((apply opv_E); exact rfl))))); (refine vL_or rfl rfl (fun _ => ?_) (fun h => by omega)); ((apply vL_val); (case h => ((apply opv_fieldAddr); exact rfl))); ((apply vL_wanted); exact rfl); ((apply vL_val); (case h => ((apply opv_loadb1); exact rfl; exact rfl; assumption; exact rfl))); ((apply vL_wanted); exact rfl); (iterate 3 (((apply vL_val); (case h => ((apply opv_E); exact rfl))))); (refine vL_or rfl rfl (fun _ => ?_) (fun h => by omega)); ((apply vL_val); (case h => ((apply opv_fieldAddr); exact rfl))); ((apply vL_wanted); exact rfl); ((apply vL_val); (case h => ((apply opv_loadb1); exact rfl; exact rfl; assumption; exact rfl))); ((apply vL_wanted); exact rfl); (iterate 3 (((apply vL_val); (case h => ((apply opv_E); exact rfl))))); (refine vL_or rfl rfl (fun _ => ?_) (fun h => by omega)); ((apply vL_val); (case h => ((apply opv_fieldAddr); exact rfl))); ((apply vL_wanted); exact rfl); ((apply vL_val); (case h => ((apply opv_loadb1); exact rfl; exact rfl; assumption; exact rfl))); ((apply vL_wanted); exact rfl); (iterate 3 (((apply vL_val); (case h => ((apply opv_E); exact rfl))))); (refine vL_or rfl rfl (fun h => by omega) (fun _ => ?_)); (iterate 2 (((apply vL_unwanted'); exact rfl; exact rfl))); ((apply vL_val); (case h => ((apply opv_E); exact rfl))); apply vL_nil; apply seqP_normal; ((apply vC_cond_true); exact rfl); apply vC_seq; apply vC_region; ((apply vL_val); (case h => ((apply opv_E); exact rfl))); apply vL_nil; apply seqP_normal; apply vC_ret; apply seqP_ret; apply blockP_ret; apply seqP_ret; apply loopP_ret; apply blockP_ret; apply seqP_ret)
    (apply ret1; (case h1 => (exact norm_eq rfl)))
    exact ⟨by rw [nope (fun H => by have := H.1; omega)], hfw4⟩
  · (((apply vL_val); (case h => ((apply opv_fieldAddr); exact rfl))); ((apply vL_val); (case h => ((apply opv_loadb1); exact rfl; exact rfl; assumption; exact rfl))); (iterate 3 (((apply vL_val); (case h => ((apply opv_E); exact rfl))))); (refine vL_or rfl rfl (fun _ => ?_) (fun h => by omega)); ((apply vL_val); (case h => ((apply opv_fieldAddr); exact rfl))); ((apply vL_wanted); exact rfl); ((apply vL_val); (case h => ((apply opv_loadb1); exact rfl; exact rfl; assumption; exact rfl))); ((apply vL_wanted); exact rfl); ((apply vL_val); (case h => ((apply opv_fieldAddr); exact rfl))); ((apply vL_wanted); exact rfl); ((apply vL_val); (case h => ((apply opv_loadb1); exact rfl; exact rfl; assumption; exact rfl))); ((apply vL_wanted); exact rfl); (iterate 3 (((apply vL_val); (case h => ((apply opv_E); exact rfl))))); (refine vL_or rfl rfl (fun _ => ?_) (fun h => by omega)); ((apply vL_val); (case h => ((apply opv_fieldAddr); exact rfl))); ((apply vL_wanted); exact rfl); ((apply vL_val); (case h => ((apply opv_loadb1); exact rfl; exact rfl; assumption; exact rfl))); ((apply vL_wanted); exact rfl); ((apply vL_val); (case h => ((apply opv_fieldAddr); exact rfl))); ((apply vL_wanted); exact rfl); ((apply vL_val); (case h => ((apply opv_loadb1); exact rfl; exact rfl; assumption; exact rfl))); ((apply vL_wanted); exact rfl); (iterate 3 (((apply vL_val); (case h => ((apply opv_E); exact rfl))))); (refine vL_or rfl rfl (fun _ => ?_) (fun h => by omega)); ((apply vL_val); (case h => ((apply opv_fieldAddr); exact rfl))); ((apply vL_wanted); exact rfl); ((apply vL_val); (case h => ((apply opv_loadb1); exact rfl; exact rfl; assumption; exact rfl))); ((apply vL_wanted); exact rfl); (iterate 3 (((apply vL_val); (case h => ((apply opv_E); exact rfl))))); (refine vL_or rfl rfl (fun _ => ?_) (fun h => by omega)); ((apply vL_val); (case h => ((apply opv_fieldAddr); exact rfl))); ((apply vL_wanted); exact rfl); ((apply vL_val); (case h => ((apply opv_loadb1); exact rfl; exact rfl; assumption; exact rfl))); ((apply vL_wanted); exact rfl); (iterate 3 (((apply vL_val); (case h => ((apply opv_E); exact rfl))))); (refine vL_or rfl rfl (fun _ => ?_) (fun h => by omega)); ((apply vL_val); (case h => ((apply opv_fieldAddr); exact rfl))); ((apply vL_wanted); exact rfl); ((apply vL_val); (case h => ((apply opv_loadb1); exact rfl; exact rfl; assumption; exact rfl))); ((apply vL_wanted); exact rfl); (iterate 3 (((apply vL_val); (case h => ((apply opv_E); exact rfl))))); (refine vL_or rfl rfl (fun _ => ?_) (fun h => by omega)); ((apply vL_val); (case h => ((apply opv_fieldAddr); exact rfl))); ((apply vL_wanted); exact rfl); ((apply vL_val); (case h => ((apply opv_loadb1); exact rfl; exact rfl; assumption; exact rfl))); ((apply vL_wanted); exact rfl); (iterate 2 (((apply vL_val); (case h => ((apply opv_E); exact rfl))))); apply vL_nil; apply seqP_normal; (refine vC_cond_dec rfl (fun _ => ?_) (fun h => by omega)); apply vC_seq; apply vC_region; ((apply vL_val); (case h => ((apply opv_E); exact rfl))); apply vL_nil; apply seqP_normal; apply vC_ret; apply seqP_ret; apply blockP_ret; apply seqP_ret; apply loopP_ret; apply blockP_ret; apply seqP_ret)
    (apply ret1; (case h1 => (exact norm_eq rfl)))
    exact ⟨by rw [nope (fun H => by have := H.1; omega)], hfw4⟩
  rcases (by omega : x.tries < 1 ∨ (1 ≤ x.tries ∧ 10 < x.tries) ∨ (1 ≤ x.tries ∧ x.tries ≤ 10 ∧ x.broker < 1) ∨ (1 ≤ x.tries ∧ x.tries ≤ 10 ∧ 1 ≤ x.broker ∧ c.brokers < x.broker) ∨ (1 ≤ x.tries ∧ x.tries ≤ 10 ∧ 1 ≤ x.broker ∧ x.broker ≤ c.brokers)) with h | h | h | h | h2
  · (((apply vL_val); (case h => ((apply opv_fieldAddr); exact rfl))); ((apply vL_val); (case h => ((apply opv_loadb1); exact rfl; exact rfl; assumption; exact rfl))); (iterate 3 (((apply vL_val); (case h => ((apply opv_E); exact rfl))))); (refine vL_or rfl rfl (fun _ => ?_) (fun h => by omega)); ((apply vL_val); (case h => ((apply opv_fieldAddr); exact rfl))); ((apply vL_wanted); exact rfl); ((apply vL_val); (case h => ((apply opv_loadb1); exact rfl; exact rfl; assumption; exact rfl))); ((apply vL_wanted); exact rfl); ((apply vL_val); (case h => ((apply opv_fieldAddr); exact rfl))); ((apply vL_wanted); exact rfl); ((apply vL_val); (case h => ((apply opv_loadb1); exact rfl; exact rfl; assumption; exact rfl))); ((apply vL_wanted); exact rfl); (iterate 3 (((apply vL_val); (case h => ((apply opv_E); exact rfl))))); (refine vL_or rfl rfl (fun _ => ?_) (fun h => by omega)); ((apply vL_val); (case h => ((apply opv_fieldAddr); exact rfl))); ((apply vL_wanted); exact rfl); ((apply vL_val); (case h => ((apply opv_loadb1); exact rfl; exact rfl; assumption; exact rfl))); ((apply vL_wanted); exact rfl); ((apply vL_val); (case h => ((apply opv_fieldAddr); exact rfl))); ((apply vL_wanted); exact rfl); ((apply vL_val); (case h => ((apply opv_loadb1); exact rfl; exact rfl; assumption; exact rfl))); ((apply vL_wanted); exact rfl); (iterate 3 (((apply vL_val); (case h => ((apply opv_E); exact rfl))))); (refine vL_or rfl rfl (fun _ => ?_) (fun h => by omega)); ((apply vL_val); (case h => ((apply opv_fieldAddr); exact rfl))); ((apply vL_wanted); exact rfl); ((apply vL_val); (case h => ((apply opv_loadb1); exact rfl; exact rfl; assumption; exact rfl))); ((apply vL_wanted); exact rfl); (iterate 3 (((apply vL_val); (case h => ((apply opv_E); exact rfl))))); (refine vL_or rfl rfl (fun _ => ?_) (fun h => by omega)); ((apply vL_val); (case h => ((apply opv_fieldAddr); exact rfl))); ((apply vL_wanted); exact rfl); ((apply vL_val); (case h => ((apply opv_loadb1); exact rfl; exact rfl; assumption; exact rfl))); ((apply vL_wanted); exact rfl); (iterate 3 (((apply vL_val); (case h => ((apply opv_E); exact rfl))))); (refine vL_or rfl rfl (fun _ => ?_) (fun h => by omega)); ((apply vL_val); (case h => ((apply opv_fieldAddr); exact rfl))); ((apply vL_wanted); exact rfl); ((apply vL_val); (case h => ((apply opv_loadb1); exact rfl; exact rfl; assumption; exact rfl))); ((apply vL_wanted); exact rfl); (iterate 3 (((apply vL_val); (case h => ((apply opv_E); exact rfl))))); (refine vL_or rfl rfl (fun _ => ?_) (fun h => by omega)); ((apply vL_val); (case h => ((apply opv_fieldAddr); exact rfl))); ((apply vL_wanted); exact rfl); ((apply vL_val); (case h => ((apply opv_loadb1); exact rfl; exact rfl; assumption; exact rfl))); ((apply vL_wanted); exact rfl); (iterate 2 (((apply vL_val); (case h => ((apply opv_E); exact rfl))))); apply vL_nil; apply seqP_normal; (refine vC_cond_dec rfl (fun h => by omega) (fun _ => ?_)); apply vC_skip; apply seqP_normal; apply vC_seq; apply vC_region; ((apply vL_val); (case h => ((apply opv_fieldAddr); exact rfl))); ((apply vL_val); (case h => ((apply opv_loadb1); exact rfl; exact rfl; assumption; exact rfl))); ((apply vL_val); (case h => ((apply opv_E); exact rfl))); apply vL_nil; apply seqP_normal; (iterate 2 (apply vC_seq)); apply vC_region; ((apply vL_val); (case h => ((apply opv_fieldAddr); exact rfl))); ((apply vL_val); (case h => ((apply opv_loadb1); exact rfl; exact rfl; assumption; exact rfl))); (iterate 2 (((apply vL_val); (case h => ((apply opv_E); exact rfl))))); (refine vL_or rfl rfl (fun h => by omega) (fun _ => ?_)); (iterate 2 (((apply vL_unwanted'); exact rfl; exact rfl))); (iterate 2 (((apply vL_val); (case h => ((apply opv_E); exact rfl))))); (iterate 3 (((apply vL_unwanted'); exact rfl; exact rfl))); (iterate 2 (((apply vL_val); (case h => ((apply opv_E); exact rfl))))); (iterate 5 (((apply vL_unwanted'); exact rfl; exact rfl))); ((apply vL_val); (case h => ((apply opv_E); exact rfl))); apply vL_nil; apply seqP_normal; ((apply vC_cond_true); exact rfl); apply vC_seq; apply vC_region; ((apply vL_val); (case h => ((apply opv_E); exact rfl))); apply vL_nil; apply seqP_normal; apply vC_ret; apply seqP_ret; apply blockP_ret; apply seqP_ret; apply loopP_ret; apply blockP_ret; apply seqP_ret)
    (apply ret1; (case h1 => (exact norm_eq rfl)))
    exact ⟨by rw [nope (fun H => by have := H.2.1; omega)], hfw4⟩
  · (((apply vL_val); (case h => ((apply opv_fieldAddr); exact rfl))); ((apply vL_val); (case h => ((apply opv_loadb1); exact rfl; exact rfl; assumption; exact rfl))); (iterate 3 (((apply vL_val); (case h => ((apply opv_E); exact rfl))))); (refine vL_or rfl rfl (fun _ => ?_) (fun h => by omega)); ((apply vL_val); (case h => ((apply opv_fieldAddr); exact rfl))); ((apply vL_wanted); exact rfl); ((apply vL_val); (case h => ((apply opv_loadb1); exact rfl; exact rfl; assumption; exact rfl))); ((apply vL_wanted); exact rfl); ((apply vL_val); (case h => ((apply opv_fieldAddr); exact rfl))); ((apply vL_wanted); exact rfl); ((apply vL_val); (case h => ((apply opv_loadb1); exact rfl; exact rfl; assumption; exact rfl))); ((apply vL_wanted); exact rfl); (iterate 3 (((apply vL_val); (case h => ((apply opv_E); exact rfl))))); (refine vL_or rfl rfl (fun _ => ?_) (fun h => by omega)); ((apply vL_val); (case h => ((apply opv_fieldAddr); exact rfl))); ((apply vL_wanted); exact rfl); ((apply vL_val); (case h => ((apply opv_loadb1); exact rfl; exact rfl; assumption; exact rfl))); ((apply vL_wanted); exact rfl); ((apply vL_val); (case h => ((apply opv_fieldAddr); exact rfl))); ((apply vL_wanted); exact rfl); ((apply vL_val); (case h => ((apply opv_loadb1); exact rfl; exact rfl; assumption; exact rfl))); ((apply vL_wanted); exact rfl); (iterate 3 (((apply vL_val); (case h => ((apply opv_E); exact rfl))))); (refine vL_or rfl rfl (fun _ => ?_) (fun h => by omega)); ((apply vL_val); (case h => ((apply opv_fieldAddr); exact rfl))); ((apply vL_wanted); exact rfl); ((apply vL_val); (case h => ((apply opv_loadb1); exact rfl; exact rfl; assumption; exact rfl))); ((apply vL_wanted); exact rfl); (iterate 3 (((apply vL_val); (case h => ((apply opv_E); exact rfl))))); (refine vL_or rfl rfl (fun _ => ?_) (fun h => by omega)); ((apply vL_val); (case h => ((apply opv_fieldAddr); exact rfl))); ((apply vL_wanted); exact rfl); ((apply vL_val); (case h => ((apply opv_loadb1); exact rfl; exact rfl; assumption; exact rfl))); ((apply vL_wanted); exact rfl); (iterate 3 (((apply vL_val); (case h => ((apply opv_E); exact rfl))))); (refine vL_or rfl rfl (fun _ => ?_) (fun h => by omega)); ((apply vL_val); (case h => ((apply opv_fieldAddr); exact rfl))); ((apply vL_wanted); exact rfl); ((apply vL_val); (case h => ((apply opv_loadb1); exact rfl; exact rfl; assumption; exact rfl))); ((apply vL_wanted); exact rfl); (iterate 3 (((apply vL_val); (case h => ((apply opv_E); exact rfl))))); (refine vL_or rfl rfl (fun _ => ?_) (fun h => by omega)); ((apply vL_val); (case h => ((apply opv_fieldAddr); exact rfl))); ((apply vL_wanted); exact rfl); ((apply vL_val); (case h => ((apply opv_loadb1); exact rfl; exact rfl; assumption; exact rfl))); ((apply vL_wanted); exact rfl); (iterate 2 (((apply vL_val); (case h => ((apply opv_E); exact rfl))))); apply vL_nil; apply seqP_normal; (refine vC_cond_dec rfl (fun h => by omega) (fun _ => ?_)); apply vC_skip; apply seqP_normal; apply vC_seq; apply vC_region; ((apply vL_val); (case h => ((apply opv_fieldAddr); exact rfl))); ((apply vL_val); (case h => ((apply opv_loadb1); exact rfl; exact rfl; assumption; exact rfl))); ((apply vL_val); (case h => ((apply opv_E); exact rfl))); apply vL_nil; apply seqP_normal; (iterate 2 (apply vC_seq)); apply vC_region; ((apply vL_val); (case h => ((apply opv_fieldAddr); exact rfl))); ((apply vL_val); (case h => ((apply opv_loadb1); exact rfl; exact rfl; assumption; exact rfl))); (iterate 2 (((apply vL_val); (case h => ((apply opv_E); exact rfl))))); (refine vL_or rfl rfl (fun _ => ?_) (fun h => by omega)); ((apply vL_val); (case h => ((apply opv_fieldAddr); exact rfl))); ((apply vL_wanted); exact rfl); ((apply vL_val); (case h => ((apply opv_loadb1); exact rfl; exact rfl; assumption; exact rfl))); ((apply vL_wanted); exact rfl); (iterate 3 (((apply vL_val); (case h => ((apply opv_E); exact rfl))))); (refine vL_or rfl rfl (fun h => by omega) (fun _ => ?_)); (iterate 2 (((apply vL_unwanted'); exact rfl; exact rfl))); (iterate 2 (((apply vL_val); (case h => ((apply opv_E); exact rfl))))); (iterate 5 (((apply vL_unwanted'); exact rfl; exact rfl))); ((apply vL_val); (case h => ((apply opv_E); exact rfl))); apply vL_nil; apply seqP_normal; ((apply vC_cond_true); exact rfl); apply vC_seq; apply vC_region; ((apply vL_val); (case h => ((apply opv_E); exact rfl))); apply vL_nil; apply seqP_normal; apply vC_ret; apply seqP_ret; apply blockP_ret; apply seqP_ret; apply loopP_ret; apply blockP_ret; apply seqP_ret)
    (apply ret1; (case h1 => (exact norm_eq rfl)))
    exact ⟨by rw [nope (fun H => by have := H.2.1; omega)], hfw4⟩
  · (((apply vL_val); (case h => ((apply opv_fieldAddr); exact rfl))); ((apply vL_val); (case h => ((apply opv_loadb1); exact rfl; exact rfl; assumption; exact rfl))); (iterate 3 (((apply vL_val); (case h => ((apply opv_E); exact rfl))))); (refine vL_or rfl rfl (fun _ => ?_) (fun h => by omega)); ((apply vL_val); (case h => ((apply opv_fieldAddr); exact rfl))); ((apply vL_wanted); exact rfl); ((apply vL_val); (case h => ((apply opv_loadb1); exact rfl; exact rfl; assumption; exact rfl))); ((apply vL_wanted); exact rfl); ((apply vL_val); (case h => ((apply opv_fieldAddr); exact rfl))); ((apply vL_wanted); exact rfl); ((apply vL_val); (case h => ((apply opv_loadb1); exact rfl; exact rfl; assumption; exact rfl))); ((apply vL_wanted); exact rfl); (iterate 3 (((apply vL_val); (case h => ((apply opv_E); exact rfl))))); (refine vL_or rfl rfl (fun _ => ?_) (fun h => by omega)); ((apply vL_val); (case h => ((apply opv_fieldAddr); exact rfl))); ((apply vL_wanted); exact rfl); ((apply vL_val); (case h => ((apply opv_loadb1); exact rfl; exact rfl; assumption; exact rfl))); ((apply vL_wanted); exact rfl); ((apply vL_val); (case h => ((apply opv_fieldAddr); exact rfl))); ((apply vL_wanted); exact rfl); ((apply vL_val); (case h => ((apply opv_loadb1); exact rfl; exact rfl; assumption; exact rfl))); ((apply vL_wanted); exact rfl); (iterate 3 (((apply vL_val); (case h => ((apply opv_E); exact rfl))))); (refine vL_or rfl rfl (fun _ => ?_) (fun h => by omega)); ((apply vL_val); (case h => ((apply opv_fieldAddr); exact rfl))); ((apply vL_wanted); exact rfl); ((apply vL_val); (case h => ((apply opv_loadb1); exact rfl; exact rfl; assumption; exact rfl))); ((apply vL_wanted); exact rfl); (iterate 3 (((apply vL_val); (case h => ((apply opv_E); exact rfl))))); (refine vL_or rfl rfl (fun _ => ?_) (fun h => by omega)); ((apply vL_val); (case h => ((apply opv_fieldAddr); exact rfl))); ((apply vL_wanted); exact rfl); ((apply vL_val); (case h => ((apply opv_loadb1); exact rfl; exact rfl; assumption; exact rfl))); ((apply vL_wanted); exact rfl); (iterate 3 (((apply vL_val); (case h => ((apply opv_E); exact rfl))))); (refine vL_or rfl rfl (fun _ => ?_) (fun h => by omega)); ((apply vL_val); (case h => ((apply opv_fieldAddr); exact rfl))); ((apply vL_wanted); exact rfl); ((apply vL_val); (case h => ((apply opv_loadb1); exact rfl; exact rfl; assumption; exact rfl))); ((apply vL_wanted); exact rfl); (iterate 3 (((apply vL_val); (case h => ((apply opv_E); exact rfl))))); (refine vL_or rfl rfl (fun _ => ?_) (fun h => by omega)); ((apply vL_val); (case h => ((apply opv_fieldAddr); exact rfl))); ((apply vL_wanted); exact rfl); ((apply vL_val); (case h => ((apply opv_loadb1); exact rfl; exact rfl; assumption; exact rfl))); ((apply vL_wanted); exact rfl); (iterate 2 (((apply vL_val); (case h => ((apply opv_E); exact rfl))))); apply vL_nil; apply seqP_normal; (refine vC_cond_dec rfl (fun h => by omega) (fun _ => ?_)); apply vC_skip; apply seqP_normal; apply vC_seq; apply vC_region; ((apply vL_val); (case h => ((apply opv_fieldAddr); exact rfl))); ((apply vL_val); (case h => ((apply opv_loadb1); exact rfl; exact rfl; assumption; exact rfl))); ((apply vL_val); (case h => ((apply opv_E); exact rfl))); apply vL_nil; apply seqP_normal; (iterate 2 (apply vC_seq)); apply vC_region; ((apply vL_val); (case h => ((apply opv_fieldAddr); exact rfl))); ((apply vL_val); (case h => ((apply opv_loadb1); exact rfl; exact rfl; assumption; exact rfl))); (iterate 2 (((apply vL_val); (case h => ((apply opv_E); exact rfl))))); (refine vL_or rfl rfl (fun _ => ?_) (fun h => by omega)); ((apply vL_val); (case h => ((apply opv_fieldAddr); exact rfl))); ((apply vL_wanted); exact rfl); ((apply vL_val); (case h => ((apply opv_loadb1); exact rfl; exact rfl; assumption; exact rfl))); ((apply vL_wanted); exact rfl); (iterate 3 (((apply vL_val); (case h => ((apply opv_E); exact rfl))))); (refine vL_or rfl rfl (fun _ => ?_) (fun h => by omega)); ((apply vL_val); (case h => ((apply opv_fieldAddr); exact rfl))); ((apply vL_wanted); exact rfl); ((apply vL_val); (case h => ((apply opv_loadb1); exact rfl; exact rfl; assumption; exact rfl))); ((apply vL_wanted); exact rfl); (iterate 3 (((apply vL_val); (case h => ((apply opv_E); exact rfl))))); (refine vL_or rfl rfl (fun h => by omega) (fun _ => ?_)); (iterate 4 (((apply vL_unwanted'); exact rfl; exact rfl))); ((apply vL_val); (case h => ((apply opv_E); exact rfl))); apply vL_nil; apply seqP_normal; ((apply vC_cond_true); exact rfl); apply vC_seq; apply vC_region; ((apply vL_val); (case h => ((apply opv_E); exact rfl))); apply vL_nil; apply seqP_normal; apply vC_ret; apply seqP_ret; apply blockP_ret; apply seqP_ret; apply loopP_ret; apply blockP_ret; apply seqP_ret)
    (apply ret1; (case h1 => (exact norm_eq rfl)))
    exact ⟨by rw [nope (fun H => by have := H.2.1; omega)], hfw4⟩
  · (((apply vL_val); (case h => ((apply opv_fieldAddr); exact rfl))); ((apply vL_val); (case h => ((apply opv_loadb1); exact rfl; exact rfl; assumption; exact rfl))); (iterate 3 (((apply vL_val); (case h => ((apply opv_E); exact rfl))))); (refine vL_or rfl rfl (fun _ => ?_) (fun h => by omega)); ((apply vL_val); (case h => ((apply opv_fieldAddr); exact rfl))); ((apply vL_wanted); exact rfl); ((apply vL_val); (case h => ((apply opv_loadb1); exact rfl; exact rfl; assumption; exact rfl))); ((apply vL_wanted); exact rfl); ((apply vL_val); (case h => ((apply opv_fieldAddr); exact rfl))); ((apply vL_wanted); exact rfl); ((apply vL_val); (case h => ((apply opv_loadb1); exact rfl; exact rfl; assumption; exact rfl))); ((apply vL_wanted); exact rfl); (iterate 3 (((apply vL_val); (case h => ((apply opv_E); exact rfl))))); (refine vL_or rfl rfl (fun _ => ?_) (fun h => by omega)); ((apply vL_val); (case h => ((apply opv_fieldAddr); exact rfl))); ((apply vL_wanted); exact rfl); ((apply vL_val); (case h => ((apply opv_loadb1); exact rfl; exact rfl; assumption; exact rfl))); ((apply vL_wanted); exact rfl); ((apply vL_val); (case h => ((apply opv_fieldAddr); exact rfl))); ((apply vL_wanted); exact rfl); ((apply vL_val); (case h => ((apply opv_loadb1); exact rfl; exact rfl; assumption; exact rfl))); ((apply vL_wanted); exact rfl); (iterate 3 (((apply vL_val); (case h => ((apply opv_E); exact rfl))))); (refine vL_or rfl rfl (fun _ => ?_) (fun h => by omega)); ((apply vL_val); (case h => ((apply opv_fieldAddr); exact rfl))); ((apply vL_wanted); exact rfl); ((apply vL_val); (case h => ((apply opv_loadb1); exact rfl; exact rfl; assumption; exact rfl))); ((apply vL_wanted); exact rfl); (iterate 3 (((apply vL_val); (case h => ((apply opv_E); exact rfl))))); (refine vL_or rfl rfl (fun _ => ?_) (fun h => by omega)); ((apply vL_val); (case h => ((apply opv_fieldAddr); exact rfl))); ((apply vL_wanted); exact rfl); ((apply vL_val); (case h => ((apply opv_loadb1); exact rfl; exact rfl; assumption; exact rfl))); ((apply vL_wanted); exact rfl); (iterate 3 (((apply vL_val); (case h => ((apply opv_E); exact rfl))))); (refine vL_or rfl rfl (fun _ => ?_) (fun h => by omega)); ((apply vL_val); (case h => ((apply opv_fieldAddr); exact rfl))); ((apply vL_wanted); exact rfl); ((apply vL_val); (case h => ((apply opv_loadb1); exact rfl; exact rfl; assumption; exact rfl))); ((apply vL_wanted); exact rfl); (iterate 3 (((apply vL_val); (case h => ((apply opv_E); exact rfl))))); (refine vL_or rfl rfl (fun _ => ?_) (fun h => by omega)); ((apply vL_val); (case h => ((apply opv_fieldAddr); exact rfl))); ((apply vL_wanted); exact rfl); ((apply vL_val); (case h => ((apply opv_loadb1); exact rfl; exact rfl; assumption; exact rfl))); ((apply vL_wanted); exact rfl); (iterate 2 (((apply vL_val); (case h => ((apply opv_E); exact rfl))))); apply vL_nil; apply seqP_normal; (refine vC_cond_dec rfl (fun h => by omega) (fun _ => ?_)); apply vC_skip; apply seqP_normal; apply vC_seq; apply vC_region; ((apply vL_val); (case h => ((apply opv_fieldAddr); exact rfl))); ((apply vL_val); (case h => ((apply opv_loadb1); exact rfl; exact rfl; assumption; exact rfl))); ((apply vL_val); (case h => ((apply opv_E); exact rfl))); apply vL_nil; apply seqP_normal; (iterate 2 (apply vC_seq)); apply vC_region; ((apply vL_val); (case h => ((apply opv_fieldAddr); exact rfl))); ((apply vL_val); (case h => ((apply opv_loadb1); exact rfl; exact rfl; assumption; exact rfl))); (iterate 2 (((apply vL_val); (case h => ((apply opv_E); exact rfl))))); (refine vL_or rfl rfl (fun _ => ?_) (fun h => by omega)); ((apply vL_val); (case h => ((apply opv_fieldAddr); exact rfl))); ((apply vL_wanted); exact rfl); ((apply vL_val); (case h => ((apply opv_loadb1); exact rfl; exact rfl; assumption; exact rfl))); ((apply vL_wanted); exact rfl); (iterate 3 (((apply vL_val); (case h => ((apply opv_E); exact rfl))))); (refine vL_or rfl rfl (fun _ => ?_) (fun h => by omega)); ((apply vL_val); (case h => ((apply opv_fieldAddr); exact rfl))); ((apply vL_wanted); exact rfl); ((apply vL_val); (case h => ((apply opv_loadb1); exact rfl; exact rfl; assumption; exact rfl))); ((apply vL_wanted); exact rfl); (iterate 3 (((apply vL_val); (case h => ((apply opv_E); exact rfl))))); (refine vL_or rfl rfl (fun _ => ?_) (fun h => by omega)); ((apply vL_val); (case h => ((apply opv_fieldAddr); exact rfl))); ((apply vL_wanted); exact rfl); ((apply vL_val); (case h => ((apply opv_loadb1); exact rfl; exact rfl; assumption; exact rfl))); ((apply vL_wanted); exact rfl); ((apply vL_val); (case h => ((apply opv_fieldAddr); exact rfl))); ((apply vL_wanted); exact rfl); ((apply vL_val); (case h => ((apply opv_loadb1); exact rfl; exact rfl; assumption; exact rfl))); ((apply vL_wanted); exact rfl); (iterate 2 (((apply vL_val); (case h => ((apply opv_E); exact rfl))))); apply vL_nil; apply seqP_normal; (refine vC_cond_dec rfl (fun _ => ?_) (fun h => by omega)); apply vC_seq; apply vC_region; ((apply vL_val); (case h => ((apply opv_E); exact rfl))); apply vL_nil; apply seqP_normal; apply vC_ret; apply seqP_ret; apply blockP_ret; apply seqP_ret; apply loopP_ret; apply blockP_ret; apply seqP_ret)
    (apply ret1; (case h1 => (exact norm_eq rfl)))
    exact ⟨by rw [nope (fun H => by have := H.2.1; omega)], hfw4⟩
  (((apply vL_val); (case h => ((apply opv_fieldAddr); exact rfl))); ((apply vL_val); (case h => ((apply opv_loadb1); exact rfl; exact rfl; assumption; exact rfl))); (iterate 3 (((apply vL_val); (case h => ((apply opv_E); exact rfl))))); (refine vL_or rfl rfl (fun _ => ?_) (fun h => by omega)); ((apply vL_val); (case h => ((apply opv_fieldAddr); exact rfl))); ((apply vL_wanted); exact rfl); ((apply vL_val); (case h => ((apply opv_loadb1); exact rfl; exact rfl; assumption; exact rfl))); ((apply vL_wanted); exact rfl); ((apply vL_val); (case h => ((apply opv_fieldAddr); exact rfl))); ((apply vL_wanted); exact rfl); ((apply vL_val); (case h => ((apply opv_loadb1); exact rfl; exact rfl; assumption; exact rfl))); ((apply vL_wanted); exact rfl); (iterate 3 (((apply vL_val); (case h => ((apply opv_E); exact rfl))))); (refine vL_or rfl rfl (fun _ => ?_) (fun h => by omega)); ((apply vL_val); (case h => ((apply opv_fieldAddr); exact rfl))); ((apply vL_wanted); exact rfl); ((apply vL_val); (case h => ((apply opv_loadb1); exact rfl; exact rfl; assumption; exact rfl))); ((apply vL_wanted); exact rfl); ((apply vL_val); (case h => ((apply opv_fieldAddr); exact rfl))); ((apply vL_wanted); exact rfl); ((apply vL_val); (case h => ((apply opv_loadb1); exact rfl; exact rfl; assumption; exact rfl))); ((apply vL_wanted); exact rfl); (iterate 3 (((apply vL_val); (case h => ((apply opv_E); exact rfl))))); (refine vL_or rfl rfl (fun _ => ?_) (fun h => by omega)); ((apply vL_val); (case h => ((apply opv_fieldAddr); exact rfl))); ((apply vL_wanted); exact rfl); ((apply vL_val); (case h => ((apply opv_loadb1); exact rfl; exact rfl; assumption; exact rfl))); ((apply vL_wanted); exact rfl); (iterate 3 (((apply vL_val); (case h => ((apply opv_E); exact rfl))))); (refine vL_or rfl rfl (fun _ => ?_) (fun h => by omega)); ((apply vL_val); (case h => ((apply opv_fieldAddr); exact rfl))); ((apply vL_wanted); exact rfl); ((apply vL_val); (case h => ((apply opv_loadb1); exact rfl; exact rfl; assumption; exact rfl))); ((apply vL_wanted); exact rfl); (iterate 3 (((apply vL_val); (case h => ((apply opv_E); exact rfl))))); (refine vL_or rfl rfl (fun _ => ?_) (fun h => by omega)); ((apply vL_val); (case h => ((apply opv_fieldAddr); exact rfl))); ((apply vL_wanted); exact rfl); ((apply vL_val); (case h => ((apply opv_loadb1); exact rfl; exact rfl; assumption; exact rfl))); ((apply vL_wanted); exact rfl); (iterate 3 (((apply vL_val); (case h => ((apply opv_E); exact rfl))))); (refine vL_or rfl rfl (fun _ => ?_) (fun h => by omega)); ((apply vL_val); (case h => ((apply opv_fieldAddr); exact rfl))); ((apply vL_wanted); exact rfl); ((apply vL_val); (case h => ((apply opv_loadb1); exact rfl; exact rfl; assumption; exact rfl))); ((apply vL_wanted); exact rfl); (iterate 2 (((apply vL_val); (case h => ((apply opv_E); exact rfl))))); apply vL_nil; apply seqP_normal; (refine vC_cond_dec rfl (fun h => by omega) (fun _ => ?_)); apply vC_skip; apply seqP_normal; apply vC_seq; apply vC_region; ((apply vL_val); (case h => ((apply opv_fieldAddr); exact rfl))); ((apply vL_val); (case h => ((apply opv_loadb1); exact rfl; exact rfl; assumption; exact rfl))); ((apply vL_val); (case h => ((apply opv_E); exact rfl))); apply vL_nil; apply seqP_normal; (iterate 2 (apply vC_seq)); apply vC_region; ((apply vL_val); (case h => ((apply opv_fieldAddr); exact rfl))); ((apply vL_val); (case h => ((apply opv_loadb1); exact rfl; exact rfl; assumption; exact rfl))); (iterate 2 (((apply vL_val); (case h => ((apply opv_E); exact rfl))))); (refine vL_or rfl rfl (fun _ => ?_) (fun h => by omega)); ((apply vL_val); (case h => ((apply opv_fieldAddr); exact rfl))); ((apply vL_wanted); exact rfl); ((apply vL_val); (case h => ((apply opv_loadb1); exact rfl; exact rfl; assumption; exact rfl))); ((apply vL_wanted); exact rfl); (iterate 3 (((apply vL_val); (case h => ((apply opv_E); exact rfl))))); (refine vL_or rfl rfl (fun _ => ?_) (fun h => by omega)); ((apply vL_val); (case h => ((apply opv_fieldAddr); exact rfl))); ((apply vL_wanted); exact rfl); ((apply vL_val); (case h => ((apply opv_loadb1); exact rfl; exact rfl; assumption; exact rfl))); ((apply vL_wanted); exact rfl); (iterate 3 (((apply vL_val); (case h => ((apply opv_E); exact rfl))))); (refine vL_or rfl rfl (fun _ => ?_) (fun h => by omega)); ((apply vL_val); (case h => ((apply opv_fieldAddr); exact rfl))); ((apply vL_wanted); exact rfl); ((apply vL_val); (case h => ((apply opv_loadb1); exact rfl; exact rfl; assumption; exact rfl))); ((apply vL_wanted); exact rfl); ((apply vL_val); (case h => ((apply opv_fieldAddr); exact rfl))); ((apply vL_wanted); exact rfl); ((apply vL_val); (case h => ((apply opv_loadb1); exact rfl; exact rfl; assumption; exact rfl))); ((apply vL_wanted); exact rfl); (iterate 2 (((apply vL_val); (case h => ((apply opv_E); exact rfl))))); apply vL_nil; apply seqP_normal; (refine vC_cond_dec rfl (fun h => by omega) (fun _ => ?_)); apply vC_skip; apply seqP_normal; apply vC_seq)
  by_cases hk1 : x.rq.k = 1
  rotate_left
  · (with_reducible apply vC_drawQ); (((apply vQ_op); (case hi => exact rfl); (case hf => kernel_rfl); (case hS => exact Dr.refl _); (case hy => (intro j; ((apply opv_fieldAddr); exact rfl)))); ((apply vQ_op); (case hi => exact rfl); (case hf => kernel_rfl); (case hS => exact Dr.refl _); (case hy => (intro j; ((apply opv_loadb1); exact rfl; exact rfl; assumption; exact rfl)))); (iterate 2 (((apply vQ_op); (case hi => exact rfl); (case hf => kernel_rfl); (case hS => exact Dr.refl _); (case hy => (intro j; ((apply opv_E); exact rfl)))))); (refine vQ_gF rfl rfl rfl (by omega) ?_); (iterate 5 (((apply vQ_unwanted); (case hi => exact rfl); (case hg => exact rfl); (case hne => exact rfl); (case hf => kernel_rfl); (case hS => exact Dr.refl _)))); (iterate 4 (((apply vQ_unwanted_none); (case hi => exact rfl); (case hg => exact rfl); (case hf => kernel_rfl); (case hS => exact Dr.refl _)))); (iterate 2 (((apply vQ_unwanted); (case hi => exact rfl); (case hg => exact rfl); (case hne => exact rfl); (case hf => kernel_rfl); (case hS => exact Dr.refl _)))); (iterate 4 (((apply vQ_unwanted_none); (case hi => exact rfl); (case hg => exact rfl); (case hf => kernel_rfl); (case hS => exact Dr.refl _)))); (iterate 2 (((apply vQ_unwanted); (case hi => exact rfl); (case hg => exact rfl); (case hne => exact rfl); (case hf => kernel_rfl); (case hS => exact Dr.refl _)))); (iterate 8 (((apply vQ_unwanted_none); (case hi => exact rfl); (case hg => exact rfl); (case hf => kernel_rfl); (case hS => exact Dr.refl _)))); ((apply vQ_unwanted); (case hi => exact rfl); (case hg => exact rfl); (case hne => exact rfl); (case hf => kernel_rfl); (case hS => exact Dr.refl _)); ((apply vQ_op); (case hi => exact rfl); (case hf => kernel_rfl); (case hS => exact Dr.refl _); (case hy => (intro j; ((apply opv_E); exact rfl)))); ((apply vQ_end); (case hi => exact rfl); (case hf => kernel_rfl); (case hS => exact Dr.refl _)))
    (apply seqP_normal; ((apply vC_cond_false); exact rfl); apply vC_skip; apply blockP_normal; apply seqP_normal; apply vC_region; ((apply vL_val); (case h => ((apply opv_add); exact rfl; exact rfl; (first | omega | (simp only [List.length_map]; omega))))); ((apply vL_val); (case h => ((apply opv_E); exact rfl))); apply vL_nil; apply loopP_normal)
    (with_reducible apply end2); (case hs => ((iterate 29 (((refine same_updO ?_ ?_); rotate_left; exact rfl))); ((refine same_upd ?_ ?_); rotate_left; exact rfl); (iterate 10 (((refine same_updO ?_ ?_); rotate_left; exact rfl))); ((refine same_upd ?_ ?_); rotate_left; exact rfl); (iterate 5 (((refine same_updO ?_ ?_); rotate_left; exact rfl))); ((refine same_upd ?_ ?_); rotate_left; exact rfl); (iterate 5 (((refine same_updO ?_ ?_); rotate_left; exact rfl))); ((refine same_upd ?_ ?_); rotate_left; exact rfl); (iterate 11 (((refine same_updO ?_ ?_); rotate_left; exact rfl))); ((refine same_upd ?_ ?_); rotate_left; exact rfl); (iterate 5 (((refine same_updO ?_ ?_); rotate_left; exact rfl))); ((refine same_upd ?_ ?_); rotate_left; exact rfl); (iterate 5 (((refine same_updO ?_ ?_); rotate_left; exact rfl))); ((refine same_upd ?_ ?_); rotate_left; exact rfl); (iterate 5 (((refine same_updO ?_ ?_); rotate_left; exact rfl))); ((refine same_upd ?_ ?_); rotate_left; exact rfl); (iterate 7 (((refine same_updO ?_ ?_); rotate_left; exact rfl))); ((refine same_upd ?_ ?_); rotate_left; exact rfl); (iterate 7 (((refine same_updO ?_ ?_); rotate_left; exact rfl))); ((refine same_upd ?_ ?_); rotate_left; exact rfl); (iterate 5 (((refine same_updO ?_ ?_); rotate_left; exact rfl))); apply same_updN; (iterate 3 (((refine same_updO ?_ ?_); rotate_left; exact rfl))); apply same_updN; (iterate 6 (((refine same_updO ?_ ?_); rotate_left; exact rfl))); (iterate 2 (((refine same_upd ?_ ?_); rotate_left; exact rfl))); (exact same_mask _ _ _))); (case h1 => (exact norm_eq rfl)); (case h2 => (exact norm_eq rfl))
    · refine ⟨i + 1, by rw [hla1], rfl, by omega, hfw4.drew, hb4.frN (Fr.refl No w4).drew, fun j y hj hy => ?_⟩
      by_cases e : j = i
      · subst e; rw [hxi] at hy; cases hy; exact ⟨by rw [← ela]; exact h1, h2, fun h => absurd h hk1⟩
      · exact hok j y (by omega) hy
    · simp [RowKit.intOf]; omega
  have hys : ByOk (x.rq.brs.map (fun y => (y.1, y.2.length))) := fun y hy => by
    obtain ⟨z, hz, rfl⟩ := List.mem_map.1 hy
    obtain ⟨a, cc, e⟩ := (hrq4.2.1 z hz).len
    exact ⟨a, cc, e, by have := (hrq4.2.1 z hz).small; simp only; omega⟩
  have hk1' : (x.rq.k = 1) := hk1
  refine vC_draw' (fun wf => Fr No w4 wf) ((Fr.refl No w4).drew) ?_
  ((apply (tk 0)); (case hi => exact rfl); (case hf => kernel_rfl); (case hS => (apply Fr.drew; exact Fr.refl _ _)); (case hy => (intro wf hwf; haveI := From.mk hwf; (((apply opv_fieldAddr); exact rfl)))))
  ((apply (tk 1)); (case hi => exact rfl); (case hf => kernel_rfl); (case hS => (apply Fr.drew; exact Fr.refl _ _)); (case hy => (intro wf hwf; haveI := From.mk hwf; (((apply opv_loadb1); exact rfl; exact rfl; infer_instance; exact rfl)))))
  ((apply (tk 2)); (case hi => exact rfl); (case hf => kernel_rfl); (case hS => (apply Fr.drew; exact Fr.refl _ _)); (case hy => (intro wf hwf; haveI := From.mk hwf; (((apply opv_E); exact rfl)))))
  ((apply (tk 3)); (case hi => exact rfl); (case hf => kernel_rfl); (case hS => (apply Fr.drew; exact Fr.refl _ _)); (case hy => (intro wf hwf; haveI := From.mk hwf; (((apply opv_E); exact rfl)))))
  refine vA_split 80 rfl (fun _ => ?_) (fun h => absurd hk1 h)
  ((apply (tkw 4)); (case hi => exact rfl); (case hg => exact rfl); (case hf => kernel_rfl); (case hS => (apply Fr.drew; exact Fr.refl _ _)); (case hy => (intro wf hwf; haveI := From.mk hwf; (((apply opv_loadb); exact rfl; exact rfl; infer_instance; exact rfl)))))
  (refine tkcw 5 rfl rfl (by kernel_rfl) (by (apply Fr.drew; exact Fr.refl _ _)) rfl (of31 x.rq _) rfl ?_)
  rintro _ w5 ⟨rfl, hf5⟩
  have hf45 : Fr No w4 w5 := (Fr.refl No w4).drew.trans hf5
  (refine tkcw 6 rfl rfl (by kernel_rfl) (by (assumption)) rfl (mayp31 x.rq.topic x.rq.part _ hxz) rfl ?_)
  rintro _ w6 ⟨rfl, hf6⟩
  have hf46 := hf45.trans hf6
  cases m1 : mayPB x.rq.topic x.rq.part with
  | false =>
    ((apply (tkw 7)); (case hi => exact rfl); (case hg => exact rfl); (case hf => kernel_rfl); (case hS => (assumption)); (case hy => (intro wf hwf; haveI := From.mk hwf; (((apply opv_not); exact rfl)))))
    ((apply (tkw 8)); (case hi => exact rfl); (case hg => exact rfl); (case hf => kernel_rfl); (case hS => (assumption)); (case hy => (intro wf hwf; haveI := From.mk hwf; (((apply opv_E); exact rfl)))))
    refine tku 9 rfl rfl rfl (by kernel_rfl) (by (assumption)) ?_
    refine tku 10 rfl rfl rfl (by kernel_rfl) (by (assumption)) ?_
    refine tku 11 rfl rfl rfl (by kernel_rfl) (by (assumption)) ?_
    refine tku 12 rfl rfl rfl (by kernel_rfl) (by (assumption)) ?_
    ((apply (tkw 13)); (case hi => exact rfl); (case hg => exact rfl); (case hf => kernel_rfl); (case hS => (assumption)); (case hy => (intro wf hwf; haveI := From.mk hwf; (((apply opv_E); exact rfl)))))
    ((apply (tkw 14)); (case hi => exact rfl); (case hg => exact rfl); (case hf => kernel_rfl); (case hS => (assumption)); (case hy => (intro wf hwf; haveI := From.mk hwf; (((apply opv_E); exact rfl)))))
    refine tku 15 rfl rfl rfl (by kernel_rfl) (by (assumption)) ?_
    refine tku 16 rfl rfl rfl (by kernel_rfl) (by (assumption)) ?_
    refine tku 17 rfl rfl rfl (by kernel_rfl) (by (assumption)) ?_
    refine tku 18 rfl rfl rfl (by kernel_rfl) (by (assumption)) ?_
    ((apply (tkw 19)); (case hi => exact rfl); (case hg => exact rfl); (case hf => kernel_rfl); (case hS => (assumption)); (case hy => (intro wf hwf; haveI := From.mk hwf; (((apply opv_E); exact rfl)))))
    ((apply (tkw 20)); (case hi => exact rfl); (case hg => exact rfl); (case hf => kernel_rfl); (case hS => (assumption)); (case hy => (intro wf hwf; haveI := From.mk hwf; (((apply opv_E); exact rfl)))))
    refine tku 21 rfl rfl rfl (by kernel_rfl) (by (assumption)) ?_
    refine tku 22 rfl rfl rfl (by kernel_rfl) (by (assumption)) ?_
    refine tku 23 rfl rfl rfl (by kernel_rfl) (by (assumption)) ?_
    refine tku 24 rfl rfl rfl (by kernel_rfl) (by (assumption)) ?_
    refine tku 25 rfl rfl rfl (by kernel_rfl) (by (assumption)) ?_
    refine tku 26 rfl rfl rfl (by kernel_rfl) (by (assumption)) ?_
    refine tku 27 rfl rfl rfl (by kernel_rfl) (by (assumption)) ?_
    refine tku 28 rfl rfl rfl (by kernel_rfl) (by (assumption)) ?_
    ((apply (tkw 29)); (case hi => exact rfl); (case hg => exact rfl); (case hf => kernel_rfl); (case hS => (assumption)); (case hy => (intro wf hwf; haveI := From.mk hwf; (((apply opv_E); exact rfl)))))
    ((apply (tk 30)); (case hi => exact rfl); (case hf => kernel_rfl); (case hS => (assumption)); (case hy => (intro wf hwf; haveI := From.mk hwf; (((apply opv_E); exact rfl)))))
    refine vA_done (by kernel_rfl) (by (first | exact trivial | ((assumption); done))) ?_
    (apply seqP_normal; ((apply vC_cond_true); exact rfl); apply vC_seq; apply vC_region; ((apply vL_val); (case h => ((apply opv_E); exact rfl))); apply vL_nil; apply seqP_normal; apply vC_ret; apply blockP_ret; apply seqP_ret; apply loopP_ret; apply blockP_ret; apply seqP_ret)
    (apply ret1; (case h1 => (exact norm_eq rfl)))
    exact ⟨by rw [nope (fun H => by have := (H.2.2 hk1).1; rw [m1] at this; cases this)], hfw4.trans hf46⟩
  | true =>
  ((apply (tkw 7)); (case hi => exact rfl); (case hg => exact rfl); (case hf => kernel_rfl); (case hS => (assumption)); (case hy => (intro wf hwf; haveI := From.mk hwf; (((apply opv_not); exact rfl)))))
  ((apply (tkw 8)); (case hi => exact rfl); (case hg => exact rfl); (case hf => kernel_rfl); (case hS => (assumption)); (case hy => (intro wf hwf; haveI := From.mk hwf; (((apply opv_E); exact rfl)))))
  ((apply (tkw 9)); (case hi => exact rfl); (case hg => exact rfl); (case hf => kernel_rfl); (case hS => (assumption)); (case hy => (intro wf hwf; haveI := From.mk hwf; (((apply opv_fieldAddr); exact rfl)))))
  ((apply (tkw 10)); (case hi => exact rfl); (case hg => exact rfl); (case hf => kernel_rfl); (case hS => (assumption)); (case hy => (intro wf hwf; haveI := From.mk hwf; (((apply opv_fieldAddr); exact rfl)))))
  ((apply (tkw 11)); (case hi => exact rfl); (case hg => exact rfl); (case hf => kernel_rfl); (case hS => (assumption)); (case hy => (intro wf hwf; haveI := From.mk hwf; (((apply opv_loadb1); exact rfl; exact rfl; infer_instance; exact rfl)))))
  ((apply (tkw 12)); (case hi => exact rfl); (case hg => exact rfl); (case hf => kernel_rfl); (case hS => (assumption)); (case hy => (intro wf hwf; haveI := From.mk hwf; (((apply opv_E); exact rfl)))))
  ((apply (tkw 13)); (case hi => exact rfl); (case hg => exact rfl); (case hf => kernel_rfl); (case hS => (assumption)); (case hy => (intro wf hwf; haveI := From.mk hwf; (((apply opv_E); exact rfl)))))
  ((apply (tkw 14)); (case hi => exact rfl); (case hg => exact rfl); (case hf => kernel_rfl); (case hS => (assumption)); (case hy => (intro wf hwf; haveI := From.mk hwf; (((apply opv_E); exact rfl)))))
  by_cases hpid : x.rq.pid < 1
  · refine vA_split 91 rfl (fun _ => ?_) (fun h => absurd hpid h)
    refine tku 15 rfl rfl rfl (by kernel_rfl) (by (assumption)) ?_
    refine tku 16 rfl rfl rfl (by kernel_rfl) (by (assumption)) ?_
    refine tku 17 rfl rfl rfl (by kernel_rfl) (by (assumption)) ?_
    refine tku 18 rfl rfl rfl (by kernel_rfl) (by (assumption)) ?_
    ((apply (tkw 19)); (case hi => exact rfl); (case hg => exact rfl); (case hf => kernel_rfl); (case hS => (assumption)); (case hy => (intro wf hwf; haveI := From.mk hwf; (((apply opv_E); exact rfl)))))
    ((apply (tkw 20)); (case hi => exact rfl); (case hg => exact rfl); (case hf => kernel_rfl); (case hS => (assumption)); (case hy => (intro wf hwf; haveI := From.mk hwf; (((apply opv_E); exact rfl)))))
    refine tku 21 rfl rfl rfl (by kernel_rfl) (by (assumption)) ?_
    refine tku 22 rfl rfl rfl (by kernel_rfl) (by (assumption)) ?_
    refine tku 23 rfl rfl rfl (by kernel_rfl) (by (assumption)) ?_
    refine tku 24 rfl rfl rfl (by kernel_rfl) (by (assumption)) ?_
    refine tku 25 rfl rfl rfl (by kernel_rfl) (by (assumption)) ?_
    refine tku 26 rfl rfl rfl (by kernel_rfl) (by (assumption)) ?_
    refine tku 27 rfl rfl rfl (by kernel_rfl) (by (assumption)) ?_
    refine tku 28 rfl rfl rfl (by kernel_rfl) (by (assumption)) ?_
    ((apply (tkw 29)); (case hi => exact rfl); (case hg => exact rfl); (case hf => kernel_rfl); (case hS => (assumption)); (case hy => (intro wf hwf; haveI := From.mk hwf; (((apply opv_E); exact rfl)))))
    ((apply (tk 30)); (case hi => exact rfl); (case hf => kernel_rfl); (case hS => (assumption)); (case hy => (intro wf hwf; haveI := From.mk hwf; (((apply opv_E); exact rfl)))))
    refine vA_done (by kernel_rfl) (by (first | exact trivial | ((assumption); done))) ?_
    (apply seqP_normal; ((apply vC_cond_true); exact rfl); apply vC_seq; apply vC_region; ((apply vL_val); (case h => ((apply opv_E); exact rfl))); apply vL_nil; apply seqP_normal; apply vC_ret; apply blockP_ret; apply seqP_ret; apply loopP_ret; apply blockP_ret; apply seqP_ret)
    (apply ret1; (case h1 => (exact norm_eq rfl)))
    exact ⟨by rw [nope (fun H => by have := (H.2.2 hk1).2.1; omega)], hfw4.trans hf46⟩
  refine vA_split 91 rfl (fun h => absurd h hpid) (fun _ => ?_)
  ((apply (tkw 15)); (case hi => exact rfl); (case hg => exact rfl); (case hf => kernel_rfl); (case hS => (assumption)); (case hy => (intro wf hwf; haveI := From.mk hwf; (((apply opv_fieldAddr); exact rfl)))))
  ((apply (tkw 16)); (case hi => exact rfl); (case hg => exact rfl); (case hf => kernel_rfl); (case hS => (assumption)); (case hy => (intro wf hwf; haveI := From.mk hwf; (((apply opv_loadbC); exact rfl; exact rfl; infer_instance; exact (rfl : _ = [_, _, _, _]); exact rfl)))))
  (refine tkcw 17 rfl rfl (by kernel_rfl) (by (assumption)) rfl (may25 x.rq.pid x.rq.ep x.rq.fi x.rq.brv (x.rq.brs.map (fun y => (y.1, y.2.length))) _ ((Rd.by25 hrq4.1).frN hf46) hys) rfl ?_)
  rintro _ w7 ⟨rfl, hf7⟩
  have hf47 := hf46.trans hf7
  rw [show (x.rq.brs.map (fun y => (y.1, y.2.length))).map (fun x => x.2) = x.rq.brs.map (fun y => y.2.length) by rw [List.map_map]; rfl]
  cases m3 : mayB x.rq.pid x.rq.ep x.rq.fi (x.rq.brs.map (fun y => y.2.length)) with
  | false =>
    ((apply (tkw 18)); (case hi => exact rfl); (case hg => exact rfl); (case hf => kernel_rfl); (case hS => (assumption)); (case hy => (intro wf hwf; haveI := From.mk hwf; (((apply opv_not); exact rfl)))))
    ((apply (tkw 19)); (case hi => exact rfl); (case hg => exact rfl); (case hf => kernel_rfl); (case hS => (assumption)); (case hy => (intro wf hwf; haveI := From.mk hwf; (((apply opv_E); exact rfl)))))
    ((apply (tkw 20)); (case hi => exact rfl); (case hg => exact rfl); (case hf => kernel_rfl); (case hS => (assumption)); (case hy => (intro wf hwf; haveI := From.mk hwf; (((apply opv_E); exact rfl)))))
    refine tku 21 rfl rfl rfl (by kernel_rfl) (by (assumption)) ?_
    refine tku 22 rfl rfl rfl (by kernel_rfl) (by (assumption)) ?_
    refine tku 23 rfl rfl rfl (by kernel_rfl) (by (assumption)) ?_
    refine tku 24 rfl rfl rfl (by kernel_rfl) (by (assumption)) ?_
    refine tku 25 rfl rfl rfl (by kernel_rfl) (by (assumption)) ?_
    refine tku 26 rfl rfl rfl (by kernel_rfl) (by (assumption)) ?_
    refine tku 27 rfl rfl rfl (by kernel_rfl) (by (assumption)) ?_
    refine tku 28 rfl rfl rfl (by kernel_rfl) (by (assumption)) ?_
    ((apply (tkw 29)); (case hi => exact rfl); (case hg => exact rfl); (case hf => kernel_rfl); (case hS => (assumption)); (case hy => (intro wf hwf; haveI := From.mk hwf; (((apply opv_E); exact rfl)))))
    ((apply (tk 30)); (case hi => exact rfl); (case hf => kernel_rfl); (case hS => (assumption)); (case hy => (intro wf hwf; haveI := From.mk hwf; (((apply opv_E); exact rfl)))))
    refine vA_done (by kernel_rfl) (by (first | exact trivial | ((assumption); done))) ?_
    (apply seqP_normal; ((apply vC_cond_true); exact rfl); apply vC_seq; apply vC_region; ((apply vL_val); (case h => ((apply opv_E); exact rfl))); apply vL_nil; apply seqP_normal; apply vC_ret; apply blockP_ret; apply seqP_ret; apply loopP_ret; apply blockP_ret; apply seqP_ret)
    (apply ret1; (case h1 => (exact norm_eq rfl)))
    exact ⟨by rw [nope (fun H => by have := (H.2.2 hk1).2.2.1; rw [m3] at this; cases this)], hfw4.trans hf47⟩
  | true =>
  ((apply (tkw 18)); (case hi => exact rfl); (case hg => exact rfl); (case hf => kernel_rfl); (case hS => (assumption)); (case hy => (intro wf hwf; haveI := From.mk hwf; (((apply opv_not); exact rfl)))))
  ((apply (tkw 19)); (case hi => exact rfl); (case hg => exact rfl); (case hf => kernel_rfl); (case hS => (assumption)); (case hy => (intro wf hwf; haveI := From.mk hwf; (((apply opv_E); exact rfl)))))
  ((apply (tkw 20)); (case hi => exact rfl); (case hg => exact rfl); (case hf => kernel_rfl); (case hS => (assumption)); (case hy => (intro wf hwf; haveI := From.mk hwf; (((apply opv_E); exact rfl)))))
  ((apply (tkw 21)); (case hi => exact rfl); (case hg => exact rfl); (case hf => kernel_rfl); (case hS => (assumption)); (case hy => (intro wf hwf; haveI := From.mk hwf; (((apply opv_fieldAddr); exact rfl)))))
  ((apply (tkw 22)); (case hi => exact rfl); (case hg => exact rfl); (case hf => kernel_rfl); (case hS => (assumption)); (case hy => (intro wf hwf; haveI := From.mk hwf; (((apply opv_loadb1); exact rfl; exact rfl; infer_instance; exact rfl)))))
  ((apply (tkw 23)); (case hi => exact rfl); (case hg => exact rfl); (case hf => kernel_rfl); (case hS => (assumption)); (case hy => (intro wf hwf; haveI := From.mk hwf; (((apply opv_E); exact rfl)))))
  obtain ⟨cap, hcap⟩ := hr4.ptr (by omega)
  have hcl : c.ws.length ≤ cap := by
    rcases hr4.shape with ⟨h, _⟩ | ⟨b, o, c', h, h'⟩
    · rw [h]; exact Nat.zero_le _
    · rw [hcap] at h; injection h with _ _ h3; omega
  ((apply (tkw 24)); (case hi => exact rfl); (case hg => exact rfl); (case hf => kernel_rfl); (case hS => (assumption)); (case hy => (intro wf hwf; exact opv_slice_hi' (hx := hcap) (i := i) rfl (by omega) (by omega))))
  ((apply (tkw 25)); (case hi => exact rfl); (case hg => exact rfl); (case hf => kernel_rfl); (case hS => (assumption)); (case hy => (intro wf hwf; haveI := From.mk hwf; (((apply opv_loadb); exact rfl; exact rfl; infer_instance; exact rfl)))))
  (refine tkcw 26 rfl rfl (by kernel_rfl) (by (assumption)) rfl (of31 x.rq _) rfl ?_)
  rintro _ w8 ⟨rfl, hf8⟩
  have hf48 := hf47.trans hf8
  (refine tkcw 27 rfl rfl (by kernel_rfl) (by (assumption)) rfl (produces31 x.rq.topic x.rq.part _) rfl ?_)
  rintro _ w9 ⟨rfl, hf9, hp9⟩
  have hf49 := hf48.trans hf9
  have hrt : Rd w9.heap 26 wtE (.slice (some ⟨(adr c.wv.1).block, (adr c.wv.1).off, none⟩) i cap) (c.ws.take i) := by
    have h := hr4.frN hf49
    rw [hcap] at h
    exact Rd.take h (by omega)
  (refine tkcw 28 rfl rfl (by kernel_rfl) (by (assumption)) rfl (contG _ _ (c.ws.take i) _ x.rq.topic x.rq.part w9 hrt hp9 rfl) rfl ?_)
  rintro _ w10 ⟨rfl, hf10⟩
  have hf410 := hf49.trans hf10
  cases m4 : (c.ws.take i).any (atP x.rq.topic x.rq.part) with
  | true =>
    ((apply (tkw 29)); (case hi => exact rfl); (case hg => exact rfl); (case hf => kernel_rfl); (case hS => (assumption)); (case hy => (intro wf hwf; haveI := From.mk hwf; (((apply opv_E); exact rfl)))))
    ((apply (tk 30)); (case hi => exact rfl); (case hf => kernel_rfl); (case hS => (assumption)); (case hy => (intro wf hwf; haveI := From.mk hwf; (((apply opv_E); exact rfl)))))
    refine vA_done (by kernel_rfl) (by (first | exact trivial | ((assumption); done))) ?_
    (apply seqP_normal; ((apply vC_cond_true); exact rfl); apply vC_seq; apply vC_region; ((apply vL_val); (case h => ((apply opv_E); exact rfl))); apply vL_nil; apply seqP_normal; apply vC_ret; apply blockP_ret; apply seqP_ret; apply loopP_ret; apply blockP_ret; apply seqP_ret)
    (apply ret1; (case h1 => (exact norm_eq rfl)))
    exact ⟨by rw [nope (fun H => by have := (H.2.2 hk1).2.2.2; rw [m4] at this; cases this)], hfw4.trans hf410⟩
  | false =>
  ((apply (tkw 29)); (case hi => exact rfl); (case hg => exact rfl); (case hf => kernel_rfl); (case hS => (assumption)); (case hy => (intro wf hwf; haveI := From.mk hwf; (((apply opv_E); exact rfl)))))
  ((apply (tk 30)); (case hi => exact rfl); (case hf => kernel_rfl); (case hS => (assumption)); (case hy => (intro wf hwf; haveI := From.mk hwf; (((apply opv_E); exact rfl)))))
  refine vA_done (by kernel_rfl) (by (first | exact trivial | ((assumption); done))) ?_
  (apply seqP_normal; ((apply vC_cond_false); exact rfl); apply vC_skip; apply blockP_normal; apply seqP_normal; apply vC_region; ((apply vL_val); (case h => ((apply opv_add); exact rfl; exact rfl; (first | omega | (simp only [List.length_map]; omega))))); ((apply vL_val); (case h => ((apply opv_E); exact rfl))); apply vL_nil; apply loopP_normal)
  (with_reducible apply end2); (case hs => ((iterate 18 (((refine same_updO ?_ ?_); rotate_left; exact rfl))); ((refine same_upd ?_ ?_); rotate_left; exact rfl); (iterate 11 (((refine same_updO ?_ ?_); rotate_left; exact rfl))); ((refine same_upd ?_ ?_); rotate_left; exact rfl); (iterate 10 (((refine same_updO ?_ ?_); rotate_left; exact rfl))); ((refine same_upd ?_ ?_); rotate_left; exact rfl); (iterate 5 (((refine same_updO ?_ ?_); rotate_left; exact rfl))); ((refine same_upd ?_ ?_); rotate_left; exact rfl); (iterate 5 (((refine same_updO ?_ ?_); rotate_left; exact rfl))); ((refine same_upd ?_ ?_); rotate_left; exact rfl); (iterate 11 (((refine same_updO ?_ ?_); rotate_left; exact rfl))); ((refine same_upd ?_ ?_); rotate_left; exact rfl); (iterate 5 (((refine same_updO ?_ ?_); rotate_left; exact rfl))); ((refine same_upd ?_ ?_); rotate_left; exact rfl); (iterate 5 (((refine same_updO ?_ ?_); rotate_left; exact rfl))); ((refine same_upd ?_ ?_); rotate_left; exact rfl); (iterate 5 (((refine same_updO ?_ ?_); rotate_left; exact rfl))); ((refine same_upd ?_ ?_); rotate_left; exact rfl); (iterate 7 (((refine same_updO ?_ ?_); rotate_left; exact rfl))); ((refine same_upd ?_ ?_); rotate_left; exact rfl); (iterate 7 (((refine same_updO ?_ ?_); rotate_left; exact rfl))); ((refine same_upd ?_ ?_); rotate_left; exact rfl); (iterate 5 (((refine same_updO ?_ ?_); rotate_left; exact rfl))); apply same_updN; (iterate 3 (((refine same_updO ?_ ?_); rotate_left; exact rfl))); apply same_updN; (iterate 6 (((refine same_updO ?_ ?_); rotate_left; exact rfl))); (iterate 2 (((refine same_upd ?_ ?_); rotate_left; exact rfl))); (exact same_mask _ _ _))); (case h1 => (exact norm_eq rfl)); (case h2 => (exact norm_eq rfl))
  · refine ⟨i + 1, by rw [hla1], rfl, by omega, hfw4.trans hf410, hb4.frN hf410, fun j y hj hy => ?_⟩
    by_cases e : j = i
    · subst e; rw [hxi] at hy; cases hy; exact ⟨by rw [← ela]; exact h1, h2, fun _ => ⟨m1, by omega, m3, m4⟩⟩
    · exact hok j y (by omega) hy
  · simp [RowKit.intOf]; omega
end Go.Proofs.Ytchfaeaagpemlaa
