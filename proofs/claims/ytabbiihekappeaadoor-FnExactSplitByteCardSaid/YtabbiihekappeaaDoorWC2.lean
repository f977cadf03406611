/- Walks through the code: each function's contract. -/
import Derived.Test.YtabbiihekappeaaDoorWS
import Derived.Test.YtabbiihekappeaaDoorShelfB
import Derived.Test.YtabbiihekappeaaDoorV32
set_option linter.unusedVariables false
set_option linter.unusedSimpArgs false
set_option maxRecDepth 8000
namespace Go.Proofs.YtabbiihekappeaaDoor
open Go Go.VL
variable {W0 : World}

end Go.Proofs.YtabbiihekappeaaDoor
namespace Go.VL
/-- A text's parts at a byte. -/
def spl (u : UInt8) : List UInt8 → List UInt8 → List (List UInt8)
  | cur, [] => [cur]
  | cur, x :: l => if x = u then cur :: spl u [] l else spl u (cur ++ [x]) l
def mkB (l : List UInt8) : ByteArray := ⟨l.toArray⟩
def sps (u : UInt8) (s : ByteArray) : List ByteArray := (spl u [] s.data.toList).map mkB
theorem mkB_data (b : ByteArray) : mkB b.data.toList = b := rfl
theorem spl_len (u : UInt8) : ∀ (l cur : List UInt8), (spl u cur l).length ≤ l.length + 1
  | [], cur => by rw [spl]; simp
  | x :: l, cur => by
    rw [spl]
    split
    · have := spl_len u l []; simp only [List.length_cons]; omega
    · have := spl_len u l (cur ++ [x]); simp only [List.length_cons]; omega
theorem sps_len (u : UInt8) (s : ByteArray) : (sps u s).length ≤ s.size + 1 := by
  rw [sps, List.length_map]
  exact spl_len u s.data.toList []
theorem spl_index (u : UInt8) : ∀ (l cur : List UInt8), (Lib.index l [u] = -1 → spl u cur l = [cur ++ l]) ∧ ∀ i : Nat, Lib.index l [u] = i → spl u cur l = (cur ++ l.take i) :: spl u [] (l.drop (i + 1))
  | [], cur => ⟨fun _ => by rw [spl, List.append_nil], fun i h => by
      have h1 : Lib.index [] [u] = -1 := rfl
      omega⟩
  | x :: l, cur => by
    have hp : ([u].isPrefixOf (x :: l)) = (u == x) := by simp [List.isPrefixOf]
    rw [spl, Lib.index, hp]
    by_cases h : x = u
    · subst h
      rw [if_pos rfl, beq_self_eq_true, if_pos rfl]
      refine ⟨fun h => absurd h (by decide), fun i h => ?_⟩
      obtain rfl : i = 0 := by omega
      rw [List.take_zero, List.append_nil, Nat.zero_add, List.drop_succ_cons, List.drop_zero]
    · have h1 : (u == x) = false := by simpa using fun e : u = x => h e.symm
      rw [if_neg h, h1, if_neg (by decide)]
      obtain ⟨ih1, ih2⟩ := spl_index u l (cur ++ [x])
      by_cases h2 : Lib.index l [u] = -1
      · rw [h2, if_pos (by decide)]
        refine ⟨fun _ => by rw [ih1 h2, List.append_assoc]; rfl, fun i h => by omega⟩
      · have h3 : ¬ (Lib.index l [u] == -1) = true := by simpa using h2
        have h4 := Lib.index_ge l [u]
        rw [if_neg h3]
        refine ⟨fun h => by omega, fun i h => ?_⟩
        obtain ⟨j, rfl⟩ : ∃ j, i = j + 1 := ⟨i - 1, by omega⟩
        rw [ih2 j (by omega), List.take_succ_cons, List.drop_succ_cons, List.append_assoc]
        rfl
theorem splitK_spl (u : UInt8) : ∀ (k : Nat) (l : List UInt8), Lib.count l [u] = k → Lib.splitK [u] 0 k l = spl u [] l
  | k, l, h => by
    by_cases h2 : Lib.index l [u] = -1
    · rw [Lib.count_miss h2] at h
      subst h
      rw [Lib.splitK, (spl_index u l []).1 h2, List.nil_append]
    · have h4 := Lib.index_ge l [u]
      obtain ⟨i, hi⟩ : ∃ i : Nat, Lib.index l [u] = i := ⟨(Lib.index l [u]).toNat, by omega⟩
      have h5 := Lib.count_hit (by simp) hi
      match k, h with
      | 0, h => omega
      | k + 1, h =>
        have h6 := splitK_spl u k (l.drop (i + 1)) (by rw [show i + 1 = i + [u].length from rfl]; omega)
        have h3 : ¬ (Lib.index l [u] == -1) = true := by simpa using h2
        rw [Lib.splitK, if_neg h3, hi, Int.toNat_natCast, (spl_index u l []).2 i hi, List.nil_append, Nat.add_zero, show [u].length = 1 from rfl, h6]
theorem sps_split (u : UInt8) (s : ByteArray) : Lib.splitB ⟨#[u]⟩ 0 (Lib.countB s ⟨#[u]⟩) s = sps u s := by
  have h := Lib.splitB_data ⟨#[u]⟩ 0 (Lib.countB s ⟨#[u]⟩) s
  rw [show (⟨#[u]⟩ : ByteArray).data.toList = [u] from rfl, splitK_spl u _ s.data.toList rfl] at h
  have h2 := congrArg (List.map mkB) h
  rw [List.map_map] at h2
  have h3 : (mkB ∘ fun x : ByteArray => x.data.toList) = id := funext fun x => rfl
  rw [h3, List.map_id] at h2
  exact h2
theorem sps_count (u : UInt8) (s : ByteArray) : Lib.countB s ⟨#[u]⟩ + 1 = (sps u s).length := by
  rw [← sps_split, Lib.splitB_all ⟨#[u]⟩ (by show 1 ≤ 1; omega) 0 _ s rfl]
theorem ub {c : Int} (h : 0 ≤ c ∧ c ≤ 255) (x : UInt8) : ((x.toNat : Nat) : Int) = c ↔ x = UInt8.ofNat c.toNat := by
  constructor
  · rintro rfl
    simp
  · rintro rfl
    rw [UInt8.toNat_ofNat']
    omega
/-- What holds at the head of the reference's loop. -/
def SpI (c : Int) (z : ByteArray) (i st : Nat) (acc : List ByteArray) : Prop := (i ≤ z.size ∧ acc ++ (spl (UInt8.ofNat c.toNat) ((z.data.toList.drop st).take (i - st)) (z.data.toList.drop i)).map mkB = sps (UInt8.ofNat c.toNat) z) ∨ (i = z.size + 1 ∧ acc = sps (UInt8.ofNat c.toNat) z)
theorem SpI.init (c : Int) (z : ByteArray) : SpI c z 0 0 [] := .inl ⟨Nat.zero_le _, rfl⟩
theorem SpI.piece (z : ByteArray) (st i : Nat) : mkB ((z.data.toList.drop st).take (i - st)) = z.extract st i := bext (by simp [mkB])
theorem SpI.last {c : Int} {z : ByteArray} {i st : Nat} {acc : List ByteArray} (h : SpI c z i st acc) (hi : i = z.size) : SpI c z (i + 1) (i + 1) (acc ++ [z.extract st i]) := by
  rcases h with ⟨h1, h2⟩ | ⟨h1, h2⟩
  · refine .inr ⟨by omega, ?_⟩
    rw [List.drop_of_length_le (i := i) (by rw [Array.length_toList]; exact Nat.le_of_eq hi.symm), spl, List.map_cons, List.map_nil, SpI.piece] at h2
    exact h2
  · omega
theorem byteAt_get {z : ByteArray} {i : Nat} (h : i < z.data.toList.length) : byteAt z i = ((z.data.toList[i].toNat : Nat) : Int) := by
  rw [byteAt, List.getD_eq_getElem?_getD, List.getElem?_eq_getElem h]; rfl
theorem SpI.hit {c : Int} {z : ByteArray} {i st : Nat} {acc : List ByteArray} (h : SpI c z i st acc) (hc : 0 ≤ c ∧ c ≤ 255) (hi : i < z.size) (hb : byteAt z i = c) : SpI c z (i + 1) (i + 1) (acc ++ [z.extract st i]) := by
  have hl : i < z.data.toList.length := by rw [Array.length_toList]; exact hi
  rcases h with ⟨h1, h2⟩ | ⟨h1, h2⟩
  · refine .inl ⟨by omega, ?_⟩
    rw [byteAt_get hl, ub hc] at hb
    rw [List.drop_eq_getElem_cons hl, spl, if_pos hb, List.map_cons, SpI.piece] at h2
    rw [Nat.sub_self, List.take_zero, List.append_assoc]
    exact h2
  · omega
theorem SpI.miss {c : Int} {z : ByteArray} {i st : Nat} {acc : List ByteArray} (h : SpI c z i st acc) (hc : 0 ≤ c ∧ c ≤ 255) (hi : i < z.size) (hs : st ≤ i) (hb : ¬ byteAt z i = c) : SpI c z (i + 1) st acc := by
  have hl : i < z.data.toList.length := by rw [Array.length_toList]; exact hi
  rcases h with ⟨h1, h2⟩ | ⟨h1, h2⟩
  · refine .inl ⟨by omega, ?_⟩
    rw [byteAt_get hl, ub hc] at hb
    rw [List.drop_eq_getElem_cons hl, spl, if_neg hb] at h2
    rw [show i + 1 - st = i - st + 1 by omega, List.take_add_one, List.getElem?_drop, show st + (i - st) = i by omega, List.getElem?_eq_getElem hl]
    exact h2
  · omega
theorem SpI.fin {c : Int} {z : ByteArray} {i st : Nat} {acc : List ByteArray} (h : SpI c z i st acc) (hi : ¬ i ≤ z.size) : acc = sps (UInt8.ofNat c.toNat) z := by
  rcases h with ⟨h1, h2⟩ | ⟨h1, h2⟩
  · exact absurd h1 hi
  · exact h2
end Go.VL
namespace Go.Proofs.YtabbiihekappeaaDoor
open Go Go.VL
variable {W0 : World}

theorem strings_Split (hm : ∃ m, W0.cell? ⟨1, 0, none⟩ = some (.int .i64 m)) (s : ByteArray) (u : UInt8) (hs : s.size ≤ 1048576) : OCtr W0 Tryd.prog 13 [.t (.str s), .t (.str ⟨#[u]⟩)] (fun sh ts => sh = .one ∧ ∃ g', ts = [.sl g' (Ts (sps u s))]) :=
  OCtr.of_strs (ty := 9) (by kernel_rfl) fun w X vs hb ha => by
    obtain rfl := VRs.str2 ha
    obtain ⟨m, hm⟩ := hm
    have hw : w.cell? ⟨1, 0, none⟩ = some (.int .i64 m) := by
      rw [hb.cell (p := ⟨1, 0, none⟩) (by
        show 1 < W0.heap.size
        rcases Nat.lt_or_ge 1 W0.heap.size with h | h
        · exact h
        · simp [World.cell?, Array.getElem?_eq_none h] at hm)]
      exact hm
    refine (Go.Proofs.Tryd.strings_Split s ⟨#[u]⟩ m w (by omega) hw (by show 1 ≤ 1; omega)).mono fun e w' ⟨he, hw⟩ => ?_
    rw [sps_count] at he
    rw [sps_split] at hw
    exact ⟨he, hw⟩

/-- spec.SplitByte -/
theorem spec_SplitByte (z : ByteArray) (c : Int) (hs : z.size ≤ 1048576) (hc : 0 ≤ c ∧ c ≤ 255) : FCtr W0 Tryd.prog 7 [.t (.str z), .t (.int .u8 c)] (fun r => ∃ g', r = .t (.sl g' (Ts (sps (UInt8.ofNat c.toNat) z)))) := by
  refine Ctr.of_vc (rs := [.tmp 4]) (fn := Tryd.f7) mixed Tryd.func7 rfl rfl (by kernel_rfl) (by kernel_rfl) (by simp [Tryd.ntmps7]) (fun h0 => ?_)
  refine vc_seq fun K1 hK1 => ?_
  refine vc_reg ?_
  try simp (disch := omega) only [go_sem, ↓reduceIte, Nat.reduceEqDiff, reduceCtorEq, Nat.reduceAdd, Nat.reduceLeDiff, Nat.reduceMul, Int.reduceNeg, Int.reduceLT, Int.reduceAdd, Int.reduceSub]
  refine hK1 _ ?_
  refine vc_seq fun K2 hK2 => ?_
  refine vc_reg ?_
  try simp (disch := omega) only [go_sem, ↓reduceIte, Nat.reduceEqDiff, reduceCtorEq, Nat.reduceAdd, Nat.reduceLeDiff, Nat.reduceMul, Int.reduceNeg, Int.reduceLT, Int.reduceAdd, Int.reduceSub]
  refine .inl ⟨by simp [bsOk], fun g1_0 hg1_0 => ?_⟩
  try simp (disch := omega) only [go_sem, ↓reduceIte, Nat.reduceEqDiff, reduceCtorEq, Nat.reduceAdd, Nat.reduceLeDiff, Nat.reduceMul, Int.reduceNeg, Int.reduceLT, Int.reduceAdd, Int.reduceSub]
  refine hK2 _ ?_
  refine vc_seq fun K3 hK3 => ?_
  refine vc_reg ?_
  try simp (disch := omega) only [go_sem, ↓reduceIte, Nat.reduceEqDiff, reduceCtorEq, Nat.reduceAdd, Nat.reduceLeDiff, Nat.reduceMul, Int.reduceNeg, Int.reduceLT, Int.reduceAdd, Int.reduceSub]
  refine hK3 _ ?_
  refine vc_seq fun K4 hK4 => ?_
  refine vc_seq fun K5 hK5 => ?_
  refine vc_reg ?_
  try simp (disch := omega) only [go_sem, ↓reduceIte, Nat.reduceEqDiff, reduceCtorEq, Nat.reduceAdd, Nat.reduceLeDiff, Nat.reduceMul, Int.reduceNeg, Int.reduceLT, Int.reduceAdd, Int.reduceSub]
  refine hK5 _ ?_
  refine vc_block ?_
  refine vc_loopG (fun m s => ∃ (i st : Nat) (acc : List ByteArray) (gw vw mw : Nat), (m = z.size + 1 - i) ∧ (s.σ = [.row gw vw 1 mw (acc.map fun x => [V.t (.str x)])]) ∧ (s.env 0 = .t (.str z)) ∧ (s.env 1 = .t (.int .u8 c)) ∧ (s.env 5 = .own 0 vw 0 acc.length) ∧ (s.env 6 = .t (.int .i64 st)) ∧ (s.env 7 = .t (.int .i64 i)) ∧ (i ≤ z.size + 1) ∧ (st ≤ i) ∧ (acc.length ≤ i) ∧ (SpI c z i st acc)) (z.size + 1 - 0) ⟨0, 0, [], g1_0, 0, 0 * 1, rfl, (by first | rfl | simp), (by first | rfl | assumption | (simp (disch := omega) only [go_sem, ↓reduceIte, Nat.reduceEqDiff, reduceCtorEq, Nat.reduceAdd, Nat.reduceLeDiff, Nat.reduceMul, Int.reduceNeg, Int.reduceLT, Int.reduceAdd, Int.reduceSub])), (by first | rfl | assumption | (simp (disch := omega) only [go_sem, ↓reduceIte, Nat.reduceEqDiff, reduceCtorEq, Nat.reduceAdd, Nat.reduceLeDiff, Nat.reduceMul, Int.reduceNeg, Int.reduceLT, Int.reduceAdd, Int.reduceSub])), (by first | rfl | assumption | (simp (disch := omega) only [go_sem, ↓reduceIte, Nat.reduceEqDiff, reduceCtorEq, Nat.reduceAdd, Nat.reduceLeDiff, Nat.reduceMul, Int.reduceNeg, Int.reduceLT, Int.reduceAdd, Int.reduceSub])), (by first | rfl | assumption | (simp (disch := omega) only [go_sem, ↓reduceIte, Nat.reduceEqDiff, reduceCtorEq, Nat.reduceAdd, Nat.reduceLeDiff, Nat.reduceMul, Int.reduceNeg, Int.reduceLT, Int.reduceAdd, Int.reduceSub])), (by first | rfl | assumption | (simp (disch := omega) only [go_sem, ↓reduceIte, Nat.reduceEqDiff, reduceCtorEq, Nat.reduceAdd, Nat.reduceLeDiff, Nat.reduceMul, Int.reduceNeg, Int.reduceLT, Int.reduceAdd, Int.reduceSub])), (by first | rfl | omega | simp), (by first | rfl | omega | simp), (by first | rfl | omega | simp), (by exact SpI.init c z)⟩ ?_
  rintro m ⟨e, σ, h⟩ ⟨i, st, acc, gw, vw, mw, hm, hσ, e0, e1, e5, e6, e7, hi, hst, hal, hsp⟩ K6 hK6 hG6
  simp only at hσ e0 e1 e5 e6 e7
  subst hσ
  refine vc_seq fun K7 hK7 => ?_
  refine vc_seq fun K8 hK8 => ?_
  refine vc_reg ?_
  try simp (disch := omega) only [go_sem, ↓reduceIte, Nat.reduceEqDiff, reduceCtorEq, Nat.reduceAdd, Nat.reduceLeDiff, Nat.reduceMul, Int.reduceNeg, Int.reduceLT, Int.reduceAdd, Int.reduceSub, e0, e1, e5, e6, e7]
  refine hK8 _ ?_
  refine vc_cond (t := _) (by first | rfl | (simp (disch := omega) only [go_sem, ↓reduceIte, Nat.reduceEqDiff, reduceCtorEq, Nat.reduceAdd, Nat.reduceLeDiff, Nat.reduceMul, Int.reduceNeg, Int.reduceLT, Int.reduceAdd, Int.reduceSub, e0, e1, e5, e6, e7]; rfl)) (fun hc1 => ?_) (fun hc1 => ?_)
  · (try simp only [go_sem] at hc1)
    refine vc_skip ?_
    refine hK7 _ ?_
    refine vc_seq fun K9 hK9 => ?_
    refine vc_block ?_
    refine vc_seq fun K10 hK10 => ?_
    refine vc_reg ?_
    refine vcX_cut 5 fun K11 hK11 => ?_
    try simp (disch := omega) only [go_sem, ↓reduceIte, Nat.reduceEqDiff, reduceCtorEq, Nat.reduceAdd, Nat.reduceLeDiff, Nat.reduceMul, Int.reduceNeg, Int.reduceLT, Int.reduceAdd, Int.reduceSub, e0, e1, e5, e6, e7]
    refine hK11 _ ?_
    refine vcX_bool (fun hb6_4 => ?_) (fun hb6_4 => ?_)
    · (try simp only [go_sem] at hb6_4)
      try simp (disch := omega) only [go_sem, ↓reduceIte, Nat.reduceEqDiff, reduceCtorEq, Nat.reduceAdd, Nat.reduceLeDiff, Nat.reduceMul, Int.reduceNeg, Int.reduceLT, Int.reduceAdd, Int.reduceSub, e0, e1, e5, e6, e7]
      refine hK10 _ ?_
      refine vc_cond (t := _) (by first | rfl | (simp (disch := omega) only [go_sem, ↓reduceIte, Nat.reduceEqDiff, reduceCtorEq, Nat.reduceAdd, Nat.reduceLeDiff, Nat.reduceMul, Int.reduceNeg, Int.reduceLT, Int.reduceAdd, Int.reduceSub, e0, e1, e5, e6, e7]; rfl)) (fun hc2 => ?_) (fun hc2 => ?_)
      · (try simp only [go_sem] at hc2)
        refine vc_seq fun K13 hK13 => ?_
        refine vc_reg ?_
        try simp (disch := omega) only [go_sem, ↓reduceIte, Nat.reduceEqDiff, reduceCtorEq, Nat.reduceAdd, Nat.reduceLeDiff, Nat.reduceMul, Int.reduceNeg, Int.reduceLT, Int.reduceAdd, Int.reduceSub, e0, e1, e5, e6, e7]
        refine .inl ⟨by simp [bsOk], fun g7_5 hg7_5 => ?_⟩
        try simp (disch := omega) only [go_sem, ↓reduceIte, Nat.reduceEqDiff, reduceCtorEq, Nat.reduceAdd, Nat.reduceLeDiff, Nat.reduceMul, Int.reduceNeg, Int.reduceLT, Int.reduceAdd, Int.reduceSub, e0, e1, e5, e6, e7]
        refine x_app_own [[V.t (.str (z.extract st i))]] (show tElem Tryd.prog 24 = some 9 by kernel_rfl) (show tSize Tryd.prog 9 = some 1 by kernel_rfl) (show tZero Tryd.prog 9 = some [.t (.str ⟨#[]⟩)] by kernel_rfl) (show tBytes Tryd.prog 9 = some 16 by kernel_rfl) (by first | rfl | (simp (disch := omega) only [go_sem, ↓reduceIte, Nat.reduceEqDiff, reduceCtorEq, Nat.reduceAdd, Nat.reduceLeDiff, Nat.reduceMul, Int.reduceNeg, Int.reduceLT, Int.reduceAdd, Int.reduceSub, e0, e1, e5, e6, e7])) (by first | rfl | (simp (disch := omega) only [go_sem, ↓reduceIte, Nat.reduceEqDiff, reduceCtorEq, Nat.reduceAdd, Nat.reduceLeDiff, Nat.reduceMul, Int.reduceNeg, Int.reduceLT, Int.reduceAdd, Int.reduceSub, e0, e1, e5, e6, e7])) (by first | rfl | (simp (disch := omega) only [go_sem, ↓reduceIte, Nat.reduceEqDiff, reduceCtorEq, Nat.reduceAdd, Nat.reduceLeDiff, Nat.reduceMul, Int.reduceNeg, Int.reduceLT, Int.reduceAdd, Int.reduceSub, e0, e1, e5, e6, e7, appElems, St.elems])) (by simp) (by simp [V.leaf]) ⟨rfl, rfl⟩ (by simp only [List.length_cons, List.length_nil]; omega) ?_
        rintro g7_6 m7_6 h7_6 hh7_6 hg7_6
        try simp (disch := omega) only [go_sem, ↓reduceIte, Nat.reduceEqDiff, reduceCtorEq, Nat.reduceAdd, Nat.reduceLeDiff, Nat.reduceMul, Int.reduceNeg, Int.reduceLT, Int.reduceAdd, Int.reduceSub, e0, e1, e5, e6, e7]
        refine hK13 _ ?_
        refine vc_reg ?_
        try simp (disch := omega) only [go_sem, ↓reduceIte, Nat.reduceEqDiff, reduceCtorEq, Nat.reduceAdd, Nat.reduceLeDiff, Nat.reduceMul, Int.reduceNeg, Int.reduceLT, Int.reduceAdd, Int.reduceSub, e0, e1, e5, e6, e7]
        refine hK9 _ ?_
        refine vc_reg ?_
        try simp (disch := omega) only [go_sem, ↓reduceIte, Nat.reduceEqDiff, reduceCtorEq, Nat.reduceAdd, Nat.reduceLeDiff, Nat.reduceMul, Int.reduceNeg, Int.reduceLT, Int.reduceAdd, Int.reduceSub, e0, e1, e5, e6, e7]
        refine hG6 _ _ [0] [] ?_ (by simp) (by simp) (by simp) ⟨i + 1, i + 1, acc ++ [z.extract st i], g7_6, vw + 1, m7_6, rfl, (by first | rfl | (simp (disch := omega) only [go_sem, ↓reduceIte, Nat.reduceEqDiff, reduceCtorEq, Nat.reduceAdd, Nat.reduceLeDiff, Nat.reduceMul, Int.reduceNeg, Int.reduceLT, Int.reduceAdd, Int.reduceSub, e0, e1, e5, e6, e7, gc_σ, locObs, Ob.loc, V.loc, V.locs, idx]; done) | (simp [gc_σ, locObs, Ob.loc, V.loc, Function.comp_def, List.take_of_length_le]; done)), (by first | rfl | (simp (disch := omega) only [go_sem, ↓reduceIte, Nat.reduceEqDiff, reduceCtorEq, Nat.reduceAdd, Nat.reduceLeDiff, Nat.reduceMul, Int.reduceNeg, Int.reduceLT, Int.reduceAdd, Int.reduceSub, e0, e1, e5, e6, e7, gc_env, V.loc, V.locs, idx]; done) | (simp (disch := omega) only [go_sem, ↓reduceIte, Nat.reduceEqDiff, reduceCtorEq, Nat.reduceAdd, Nat.reduceLeDiff, Nat.reduceMul, Int.reduceNeg, Int.reduceLT, Int.reduceAdd, Int.reduceSub, e0, e1, e5, e6, e7, gc_env, V.loc, V.locs, idx]; simp; done)), (by first | rfl | (simp (disch := omega) only [go_sem, ↓reduceIte, Nat.reduceEqDiff, reduceCtorEq, Nat.reduceAdd, Nat.reduceLeDiff, Nat.reduceMul, Int.reduceNeg, Int.reduceLT, Int.reduceAdd, Int.reduceSub, e0, e1, e5, e6, e7, gc_env, V.loc, V.locs, idx]; done) | (simp (disch := omega) only [go_sem, ↓reduceIte, Nat.reduceEqDiff, reduceCtorEq, Nat.reduceAdd, Nat.reduceLeDiff, Nat.reduceMul, Int.reduceNeg, Int.reduceLT, Int.reduceAdd, Int.reduceSub, e0, e1, e5, e6, e7, gc_env, V.loc, V.locs, idx]; simp; done)), (by first | rfl | (simp (disch := omega) only [go_sem, ↓reduceIte, Nat.reduceEqDiff, reduceCtorEq, Nat.reduceAdd, Nat.reduceLeDiff, Nat.reduceMul, Int.reduceNeg, Int.reduceLT, Int.reduceAdd, Int.reduceSub, e0, e1, e5, e6, e7, gc_env, V.loc, V.locs, idx]; done) | (simp (disch := omega) only [go_sem, ↓reduceIte, Nat.reduceEqDiff, reduceCtorEq, Nat.reduceAdd, Nat.reduceLeDiff, Nat.reduceMul, Int.reduceNeg, Int.reduceLT, Int.reduceAdd, Int.reduceSub, e0, e1, e5, e6, e7, gc_env, V.loc, V.locs, idx]; simp; done)), (by first | rfl | (simp (disch := omega) only [go_sem, ↓reduceIte, Nat.reduceEqDiff, reduceCtorEq, Nat.reduceAdd, Nat.reduceLeDiff, Nat.reduceMul, Int.reduceNeg, Int.reduceLT, Int.reduceAdd, Int.reduceSub, e0, e1, e5, e6, e7, gc_env, V.loc, V.locs, idx]; done) | (simp (disch := omega) only [go_sem, ↓reduceIte, Nat.reduceEqDiff, reduceCtorEq, Nat.reduceAdd, Nat.reduceLeDiff, Nat.reduceMul, Int.reduceNeg, Int.reduceLT, Int.reduceAdd, Int.reduceSub, e0, e1, e5, e6, e7, gc_env, V.loc, V.locs, idx]; simp; done)), (by first | rfl | (simp (disch := omega) only [go_sem, ↓reduceIte, Nat.reduceEqDiff, reduceCtorEq, Nat.reduceAdd, Nat.reduceLeDiff, Nat.reduceMul, Int.reduceNeg, Int.reduceLT, Int.reduceAdd, Int.reduceSub, e0, e1, e5, e6, e7, gc_env, V.loc, V.locs, idx]; done) | (simp (disch := omega) only [go_sem, ↓reduceIte, Nat.reduceEqDiff, reduceCtorEq, Nat.reduceAdd, Nat.reduceLeDiff, Nat.reduceMul, Int.reduceNeg, Int.reduceLT, Int.reduceAdd, Int.reduceSub, e0, e1, e5, e6, e7, gc_env, V.loc, V.locs, idx]; simp; done)), ?_, ?_, ?_, ?_⟩
        · omega
        · first | omega | assumption | rfl | simp_all
        · first | omega | assumption | rfl | simp_all
        · first | omega | assumption | rfl | simp_all
        · exact hsp.last (by omega)
      · exact absurd hc2 (by simp)
    · (try simp only [go_sem] at hb6_4)
      try simp (disch := omega) only [go_sem, ↓reduceIte, Nat.reduceEqDiff, reduceCtorEq, Nat.reduceAdd, Nat.reduceLeDiff, Nat.reduceMul, Int.reduceNeg, Int.reduceLT, Int.reduceAdd, Int.reduceSub, e0, e1, e5, e6, e7]
      refine hK10 _ ?_
      refine vc_cond (t := _) (by first | rfl | (simp (disch := omega) only [go_sem, ↓reduceIte, Nat.reduceEqDiff, reduceCtorEq, Nat.reduceAdd, Nat.reduceLeDiff, Nat.reduceMul, Int.reduceNeg, Int.reduceLT, Int.reduceAdd, Int.reduceSub, e0, e1, e5, e6, e7]; rfl)) (fun hc3 => ?_) (fun hc3 => ?_)
      · (try simp only [go_sem] at hc3)
        refine vc_seq fun K14 hK14 => ?_
        refine vc_reg ?_
        try simp (disch := omega) only [go_sem, ↓reduceIte, Nat.reduceEqDiff, reduceCtorEq, Nat.reduceAdd, Nat.reduceLeDiff, Nat.reduceMul, Int.reduceNeg, Int.reduceLT, Int.reduceAdd, Int.reduceSub, e0, e1, e5, e6, e7]
        refine .inl ⟨by simp [bsOk], fun g7_5 hg7_5 => ?_⟩
        try simp (disch := omega) only [go_sem, ↓reduceIte, Nat.reduceEqDiff, reduceCtorEq, Nat.reduceAdd, Nat.reduceLeDiff, Nat.reduceMul, Int.reduceNeg, Int.reduceLT, Int.reduceAdd, Int.reduceSub, e0, e1, e5, e6, e7]
        refine x_app_own [[V.t (.str (z.extract st i))]] (show tElem Tryd.prog 24 = some 9 by kernel_rfl) (show tSize Tryd.prog 9 = some 1 by kernel_rfl) (show tZero Tryd.prog 9 = some [.t (.str ⟨#[]⟩)] by kernel_rfl) (show tBytes Tryd.prog 9 = some 16 by kernel_rfl) (by first | rfl | (simp (disch := omega) only [go_sem, ↓reduceIte, Nat.reduceEqDiff, reduceCtorEq, Nat.reduceAdd, Nat.reduceLeDiff, Nat.reduceMul, Int.reduceNeg, Int.reduceLT, Int.reduceAdd, Int.reduceSub, e0, e1, e5, e6, e7])) (by first | rfl | (simp (disch := omega) only [go_sem, ↓reduceIte, Nat.reduceEqDiff, reduceCtorEq, Nat.reduceAdd, Nat.reduceLeDiff, Nat.reduceMul, Int.reduceNeg, Int.reduceLT, Int.reduceAdd, Int.reduceSub, e0, e1, e5, e6, e7])) (by first | rfl | (simp (disch := omega) only [go_sem, ↓reduceIte, Nat.reduceEqDiff, reduceCtorEq, Nat.reduceAdd, Nat.reduceLeDiff, Nat.reduceMul, Int.reduceNeg, Int.reduceLT, Int.reduceAdd, Int.reduceSub, e0, e1, e5, e6, e7, appElems, St.elems])) (by simp) (by simp [V.leaf]) ⟨rfl, rfl⟩ (by simp only [List.length_cons, List.length_nil]; omega) ?_
        rintro g7_6 m7_6 h7_6 hh7_6 hg7_6
        try simp (disch := omega) only [go_sem, ↓reduceIte, Nat.reduceEqDiff, reduceCtorEq, Nat.reduceAdd, Nat.reduceLeDiff, Nat.reduceMul, Int.reduceNeg, Int.reduceLT, Int.reduceAdd, Int.reduceSub, e0, e1, e5, e6, e7]
        refine hK14 _ ?_
        refine vc_reg ?_
        try simp (disch := omega) only [go_sem, ↓reduceIte, Nat.reduceEqDiff, reduceCtorEq, Nat.reduceAdd, Nat.reduceLeDiff, Nat.reduceMul, Int.reduceNeg, Int.reduceLT, Int.reduceAdd, Int.reduceSub, e0, e1, e5, e6, e7]
        refine hK9 _ ?_
        refine vc_reg ?_
        try simp (disch := omega) only [go_sem, ↓reduceIte, Nat.reduceEqDiff, reduceCtorEq, Nat.reduceAdd, Nat.reduceLeDiff, Nat.reduceMul, Int.reduceNeg, Int.reduceLT, Int.reduceAdd, Int.reduceSub, e0, e1, e5, e6, e7]
        refine hG6 _ _ [0] [] ?_ (by simp) (by simp) (by simp) ⟨i + 1, i + 1, acc ++ [z.extract st i], g7_6, vw + 1, m7_6, rfl, (by first | rfl | (simp (disch := omega) only [go_sem, ↓reduceIte, Nat.reduceEqDiff, reduceCtorEq, Nat.reduceAdd, Nat.reduceLeDiff, Nat.reduceMul, Int.reduceNeg, Int.reduceLT, Int.reduceAdd, Int.reduceSub, e0, e1, e5, e6, e7, gc_σ, locObs, Ob.loc, V.loc, V.locs, idx]; done) | (simp [gc_σ, locObs, Ob.loc, V.loc, Function.comp_def, List.take_of_length_le]; done)), (by first | rfl | (simp (disch := omega) only [go_sem, ↓reduceIte, Nat.reduceEqDiff, reduceCtorEq, Nat.reduceAdd, Nat.reduceLeDiff, Nat.reduceMul, Int.reduceNeg, Int.reduceLT, Int.reduceAdd, Int.reduceSub, e0, e1, e5, e6, e7, gc_env, V.loc, V.locs, idx]; done) | (simp (disch := omega) only [go_sem, ↓reduceIte, Nat.reduceEqDiff, reduceCtorEq, Nat.reduceAdd, Nat.reduceLeDiff, Nat.reduceMul, Int.reduceNeg, Int.reduceLT, Int.reduceAdd, Int.reduceSub, e0, e1, e5, e6, e7, gc_env, V.loc, V.locs, idx]; simp; done)), (by first | rfl | (simp (disch := omega) only [go_sem, ↓reduceIte, Nat.reduceEqDiff, reduceCtorEq, Nat.reduceAdd, Nat.reduceLeDiff, Nat.reduceMul, Int.reduceNeg, Int.reduceLT, Int.reduceAdd, Int.reduceSub, e0, e1, e5, e6, e7, gc_env, V.loc, V.locs, idx]; done) | (simp (disch := omega) only [go_sem, ↓reduceIte, Nat.reduceEqDiff, reduceCtorEq, Nat.reduceAdd, Nat.reduceLeDiff, Nat.reduceMul, Int.reduceNeg, Int.reduceLT, Int.reduceAdd, Int.reduceSub, e0, e1, e5, e6, e7, gc_env, V.loc, V.locs, idx]; simp; done)), (by first | rfl | (simp (disch := omega) only [go_sem, ↓reduceIte, Nat.reduceEqDiff, reduceCtorEq, Nat.reduceAdd, Nat.reduceLeDiff, Nat.reduceMul, Int.reduceNeg, Int.reduceLT, Int.reduceAdd, Int.reduceSub, e0, e1, e5, e6, e7, gc_env, V.loc, V.locs, idx]; done) | (simp (disch := omega) only [go_sem, ↓reduceIte, Nat.reduceEqDiff, reduceCtorEq, Nat.reduceAdd, Nat.reduceLeDiff, Nat.reduceMul, Int.reduceNeg, Int.reduceLT, Int.reduceAdd, Int.reduceSub, e0, e1, e5, e6, e7, gc_env, V.loc, V.locs, idx]; simp; done)), (by first | rfl | (simp (disch := omega) only [go_sem, ↓reduceIte, Nat.reduceEqDiff, reduceCtorEq, Nat.reduceAdd, Nat.reduceLeDiff, Nat.reduceMul, Int.reduceNeg, Int.reduceLT, Int.reduceAdd, Int.reduceSub, e0, e1, e5, e6, e7, gc_env, V.loc, V.locs, idx]; done) | (simp (disch := omega) only [go_sem, ↓reduceIte, Nat.reduceEqDiff, reduceCtorEq, Nat.reduceAdd, Nat.reduceLeDiff, Nat.reduceMul, Int.reduceNeg, Int.reduceLT, Int.reduceAdd, Int.reduceSub, e0, e1, e5, e6, e7, gc_env, V.loc, V.locs, idx]; simp; done)), (by first | rfl | (simp (disch := omega) only [go_sem, ↓reduceIte, Nat.reduceEqDiff, reduceCtorEq, Nat.reduceAdd, Nat.reduceLeDiff, Nat.reduceMul, Int.reduceNeg, Int.reduceLT, Int.reduceAdd, Int.reduceSub, e0, e1, e5, e6, e7, gc_env, V.loc, V.locs, idx]; done) | (simp (disch := omega) only [go_sem, ↓reduceIte, Nat.reduceEqDiff, reduceCtorEq, Nat.reduceAdd, Nat.reduceLeDiff, Nat.reduceMul, Int.reduceNeg, Int.reduceLT, Int.reduceAdd, Int.reduceSub, e0, e1, e5, e6, e7, gc_env, V.loc, V.locs, idx]; simp; done)), ?_, ?_, ?_, ?_⟩
        · omega
        · first | omega | assumption | rfl | simp_all
        · first | omega | assumption | rfl | simp_all
        · first | omega | assumption | rfl | simp_all
        · exact hsp.hit hc (by omega) (by assumption)
      · (try simp only [go_sem] at hc3)
        refine vc_skip ?_
        refine hK9 _ ?_
        refine vc_reg ?_
        try simp (disch := omega) only [go_sem, ↓reduceIte, Nat.reduceEqDiff, reduceCtorEq, Nat.reduceAdd, Nat.reduceLeDiff, Nat.reduceMul, Int.reduceNeg, Int.reduceLT, Int.reduceAdd, Int.reduceSub, e0, e1, e5, e6, e7]
        refine hG6 _ _ [0] [] ?_ (by simp) (by simp) (by simp) ⟨i + 1, st, acc, gw, vw, mw, rfl, (by first | rfl | (simp (disch := omega) only [go_sem, ↓reduceIte, Nat.reduceEqDiff, reduceCtorEq, Nat.reduceAdd, Nat.reduceLeDiff, Nat.reduceMul, Int.reduceNeg, Int.reduceLT, Int.reduceAdd, Int.reduceSub, e0, e1, e5, e6, e7, gc_σ, locObs, Ob.loc, V.loc, V.locs, idx]; done) | (simp [gc_σ, locObs, Ob.loc, V.loc, Function.comp_def, List.take_of_length_le]; done)), (by first | rfl | (simp (disch := omega) only [go_sem, ↓reduceIte, Nat.reduceEqDiff, reduceCtorEq, Nat.reduceAdd, Nat.reduceLeDiff, Nat.reduceMul, Int.reduceNeg, Int.reduceLT, Int.reduceAdd, Int.reduceSub, e0, e1, e5, e6, e7, gc_env, V.loc, V.locs, idx]; done) | (simp (disch := omega) only [go_sem, ↓reduceIte, Nat.reduceEqDiff, reduceCtorEq, Nat.reduceAdd, Nat.reduceLeDiff, Nat.reduceMul, Int.reduceNeg, Int.reduceLT, Int.reduceAdd, Int.reduceSub, e0, e1, e5, e6, e7, gc_env, V.loc, V.locs, idx]; simp; done)), (by first | rfl | (simp (disch := omega) only [go_sem, ↓reduceIte, Nat.reduceEqDiff, reduceCtorEq, Nat.reduceAdd, Nat.reduceLeDiff, Nat.reduceMul, Int.reduceNeg, Int.reduceLT, Int.reduceAdd, Int.reduceSub, e0, e1, e5, e6, e7, gc_env, V.loc, V.locs, idx]; done) | (simp (disch := omega) only [go_sem, ↓reduceIte, Nat.reduceEqDiff, reduceCtorEq, Nat.reduceAdd, Nat.reduceLeDiff, Nat.reduceMul, Int.reduceNeg, Int.reduceLT, Int.reduceAdd, Int.reduceSub, e0, e1, e5, e6, e7, gc_env, V.loc, V.locs, idx]; simp; done)), (by first | rfl | (simp (disch := omega) only [go_sem, ↓reduceIte, Nat.reduceEqDiff, reduceCtorEq, Nat.reduceAdd, Nat.reduceLeDiff, Nat.reduceMul, Int.reduceNeg, Int.reduceLT, Int.reduceAdd, Int.reduceSub, e0, e1, e5, e6, e7, gc_env, V.loc, V.locs, idx]; done) | (simp (disch := omega) only [go_sem, ↓reduceIte, Nat.reduceEqDiff, reduceCtorEq, Nat.reduceAdd, Nat.reduceLeDiff, Nat.reduceMul, Int.reduceNeg, Int.reduceLT, Int.reduceAdd, Int.reduceSub, e0, e1, e5, e6, e7, gc_env, V.loc, V.locs, idx]; simp; done)), (by first | rfl | (simp (disch := omega) only [go_sem, ↓reduceIte, Nat.reduceEqDiff, reduceCtorEq, Nat.reduceAdd, Nat.reduceLeDiff, Nat.reduceMul, Int.reduceNeg, Int.reduceLT, Int.reduceAdd, Int.reduceSub, e0, e1, e5, e6, e7, gc_env, V.loc, V.locs, idx]; done) | (simp (disch := omega) only [go_sem, ↓reduceIte, Nat.reduceEqDiff, reduceCtorEq, Nat.reduceAdd, Nat.reduceLeDiff, Nat.reduceMul, Int.reduceNeg, Int.reduceLT, Int.reduceAdd, Int.reduceSub, e0, e1, e5, e6, e7, gc_env, V.loc, V.locs, idx]; simp; done)), (by first | rfl | (simp (disch := omega) only [go_sem, ↓reduceIte, Nat.reduceEqDiff, reduceCtorEq, Nat.reduceAdd, Nat.reduceLeDiff, Nat.reduceMul, Int.reduceNeg, Int.reduceLT, Int.reduceAdd, Int.reduceSub, e0, e1, e5, e6, e7, gc_env, V.loc, V.locs, idx]; done) | (simp (disch := omega) only [go_sem, ↓reduceIte, Nat.reduceEqDiff, reduceCtorEq, Nat.reduceAdd, Nat.reduceLeDiff, Nat.reduceMul, Int.reduceNeg, Int.reduceLT, Int.reduceAdd, Int.reduceSub, e0, e1, e5, e6, e7, gc_env, V.loc, V.locs, idx]; simp; done)), ?_, ?_, ?_, ?_⟩
        · omega
        · first | omega | assumption | rfl | simp_all
        · first | omega | assumption | rfl | simp_all
        · first | omega | assumption | rfl | simp_all
        · exact hsp.miss hc (by omega) hst (by assumption)
  · (try simp only [go_sem] at hc1)
    refine vc_exit ?_
    refine hK4 _ ?_
    refine vc_seq fun K15 hK15 => ?_
    refine vc_reg ?_
    try simp (disch := omega) only [go_sem, ↓reduceIte, Nat.reduceEqDiff, reduceCtorEq, Nat.reduceAdd, Nat.reduceLeDiff, Nat.reduceMul, Int.reduceNeg, Int.reduceLT, Int.reduceAdd, Int.reduceSub, e0, e1, e5, e6, e7]
    refine hK15 _ ?_
    refine vc_ret ?_
    have hf := hsp.fin (by omega)
    refine ⟨_, rfl, [], [0], .nil, by simp, by simp, fun hi_ h1_ => ⟨⟨gw, ?_⟩, ?_, rfl⟩, by simp⟩
    · rw [← hf]; exact loc_frz (acc.map fun x => [T.str x]) rfl (by simp) (by simp) (by simp)
    · rw [show tupV _ = V.own 0 vw 0 acc.length from rfl, loc_frz (acc.map fun x => [T.str x]) rfl (by simp) (by simp) (by simp)]; rfl

end Go.Proofs.YtabbiihekappeaaDoor
namespace Go.VL
theorem strOf_one {c : Int} (hc : 0 ≤ c ∧ c ≤ 255) : strOfNums [c] = ⟨#[UInt8.ofNat c.toNat]⟩ := by
  apply bext
  rw [strOfNums_data]
  rfl
end Go.VL
namespace Go.Proofs.YtabbiihekappeaaDoor
open Go Go.VL
variable {W0 : World}

/-- impl.SplitByte -/
theorem impl_SplitByte (hm : ∃ m, W0.cell? ⟨1, 0, none⟩ = some (.int .i64 m)) (z : ByteArray) (c : Int) (hs : z.size ≤ 1048576) (hc : 0 ≤ c ∧ c ≤ 255) : OCtr W0 Tryd.prog 8 [.t (.str z), .t (.int .u8 c)] (fun s ts => s = .one ∧ ∃ g, ts = [.sl g (Ts (sps (UInt8.ofNat c.toNat) z))]) := by
  have hso := strOf_one hc
  unfold OCtr
  refine Ctr.of_vc (rs := [.tmp 4]) (fn := Tryd.f8) mixed Tryd.func8 rfl rfl (by kernel_rfl) (by kernel_rfl) (by simp [Tryd.ntmps8]) (fun h0 => ?_)
  refine vc_seq fun K1 hK1 => ?_
  refine vc_reg ?_
  try simp (disch := omega) only [go_sem, ↓reduceIte, Nat.reduceEqDiff, reduceCtorEq, Nat.reduceAdd, Nat.reduceLeDiff, Nat.reduceMul, Int.reduceNeg, Int.reduceLT, Int.reduceAdd, Int.reduceSub]
  refine hK1 _ ?_
  refine vc_seq fun K2 hK2 => ?_
  refine vc_reg ?_
  try simp (disch := omega) only [go_sem, ↓reduceIte, Nat.reduceEqDiff, reduceCtorEq, Nat.reduceAdd, Nat.reduceLeDiff, Nat.reduceMul, Int.reduceNeg, Int.reduceLT, Int.reduceAdd, Int.reduceSub, Int.reduceEq, convQ, numsOf, St.elems, get_new, hso]
  refine .inl ⟨by simp [bsOk], fun g1_2 hg1_2 => ?_⟩
  try simp (disch := omega) only [go_sem, ↓reduceIte, Nat.reduceEqDiff, reduceCtorEq, Nat.reduceAdd, Nat.reduceLeDiff, Nat.reduceMul, Int.reduceNeg, Int.reduceLT, Int.reduceAdd, Int.reduceSub, Int.reduceEq, convQ, numsOf, St.elems, get_new, hso]
  refine x_callO (caps := []) [] [.t (.str z), .t (.str ⟨#[(UInt8.ofNat c.toNat)]⟩)] _ (strings_Split hm z (UInt8.ofNat c.toNat) hs) (by first | rfl | simp (disch := omega) only [go_sem, ↓reduceIte, Nat.reduceEqDiff, reduceCtorEq, Nat.reduceAdd, Nat.reduceLeDiff, Nat.reduceMul, Int.reduceNeg, Int.reduceLT, Int.reduceAdd, Int.reduceSub, Int.reduceEq, convQ, numsOf, St.elems, get_new, hso]) ?_ ?_
  · exact Subs.of_eq (by first | rfl | simp (disch := omega) only [go_sem, ↓reduceIte, Nat.reduceEqDiff, reduceCtorEq, Nat.reduceAdd, Nat.reduceLeDiff, Nat.reduceMul, Int.reduceNeg, Int.reduceLT, Int.reduceAdd, Int.reduceSub, Int.reduceEq, convQ, numsOf, St.elems, get_new, hso])
  rintro s ds1 vs1 S1 σ1 h1 ⟨rfl, g1, hE1⟩ hT1 hk1 hS1 hl1 hh1
  obtain ⟨d1, v1, rfl, rfl, hT1, hE1⟩ := hT1.er_one hE1
  try simp (disch := omega) only [go_sem, ↓reduceIte, Nat.reduceEqDiff, reduceCtorEq, Nat.reduceAdd, Nat.reduceLeDiff, Nat.reduceMul, Int.reduceNeg, Int.reduceLT, Int.reduceAdd, Int.reduceSub, Int.reduceEq, convQ, numsOf, St.elems, get_new, hso]
  refine hK2 _ ?_
  refine vc_ret ?_
  exact retO (h0 := h0) (Q := (fun s ts => s = .one ∧ ∃ g, ts = [.sl g (Ts (sps (UInt8.ofNat c.toNat) z))])) .one (ws := [v1]) rfl rfl trivial (TrL_one hT1) ⟨rfl, g1, by rw [D.erL, D.erL, hE1]⟩

/-- laws.FnExactSplitByte -/
theorem laws_FnExactSplitByte (hm : ∃ m, W0.cell? ⟨1, 0, none⟩ = some (.int .i64 m)) (z : ByteArray) (c : Int) (hz : z.size < 2^62) (hc : 0 ≤ c ∧ c ≤ 255) : FCtr W0 Tryd.prog 4 [.t (.str z), .t (.int .u8 c)] (fun r => r = .t (.bool true)) := by
  refine Ctr.of_vc (rs := [.tmp 4]) (fn := Tryd.f4) mixed Tryd.func4 rfl rfl (by kernel_rfl) (by kernel_rfl) (by simp [Tryd.ntmps4]) (fun h0 => ?_)
  refine vc_seq fun K1 hK1 => ?_
  refine vc_reg ?_
  try simp (disch := omega) only [go_sem, ↓reduceIte, Nat.reduceEqDiff, reduceCtorEq, Nat.reduceAdd, Nat.reduceLeDiff, Nat.reduceMul, Int.reduceNeg, Int.reduceLT, Int.reduceAdd, Int.reduceSub]
  refine hK1 _ ?_
  refine vc_seq fun K2 hK2 => ?_
  refine vc_seq fun K3 hK3 => ?_
  refine vc_reg ?_
  try simp (disch := omega) only [go_sem, ↓reduceIte, Nat.reduceEqDiff, reduceCtorEq, Nat.reduceAdd, Nat.reduceLeDiff, Nat.reduceMul, Int.reduceNeg, Int.reduceLT, Int.reduceAdd, Int.reduceSub]
  refine hK3 _ ?_
  refine vc_cond (t := _) (by first | rfl | (simp (disch := omega) only [go_sem, ↓reduceIte, Nat.reduceEqDiff, reduceCtorEq, Nat.reduceAdd, Nat.reduceLeDiff, Nat.reduceMul, Int.reduceNeg, Int.reduceLT, Int.reduceAdd, Int.reduceSub]; rfl)) (fun hc1 => ?_) (fun hc1 => ?_)
  · (try simp only [go_sem] at hc1)
    refine vc_seq fun K4 hK4 => ?_
    refine vc_reg ?_
    try simp (disch := omega) only [go_sem, ↓reduceIte, Nat.reduceEqDiff, reduceCtorEq, Nat.reduceAdd, Nat.reduceLeDiff, Nat.reduceMul, Int.reduceNeg, Int.reduceLT, Int.reduceAdd, Int.reduceSub]
    refine hK4 _ ?_
    refine vc_ret ?_
    refine ⟨_, by first | rfl | (simp only [go_sem, resQ, List.mapM_cons, List.mapM_nil, ↓reduceIte, Nat.reduceEqDiff, Nat.reduceAdd, Nat.reduceLeDiff, reduceCtorEq]; rfl), [], [], .nil, by simp, by simp, fun hi_ h1_ => ⟨?_, rfl, rfl⟩, by simp⟩
    first | rfl | simp_all
  · (try simp only [go_sem] at hc1)
    have hs : z.size ≤ 1048576 := by omega
    have hWl : (sps (UInt8.ofNat c.toNat) z).length ≤ 1048577 := by have h1 := sps_len (UInt8.ofNat c.toNat) z; omega
    refine vc_skip ?_
    refine hK2 _ ?_
    refine vc_seq fun K5 hK5 => ?_
    refine vc_reg ?_
    try simp (disch := omega) only [go_sem, ↓reduceIte, Nat.reduceEqDiff, reduceCtorEq, Nat.reduceAdd, Nat.reduceLeDiff, Nat.reduceMul, Int.reduceNeg, Int.reduceLT, Int.reduceAdd, Int.reduceSub]
    refine vcX_call _ _ (spec_SplitByte z c hs hc) (by first | rfl | (simp (disch := omega) only [go_sem, ↓reduceIte, Nat.reduceEqDiff, reduceCtorEq, Nat.reduceAdd, Nat.reduceLeDiff, Nat.reduceMul, Int.reduceNeg, Int.reduceLT, Int.reduceAdd, Int.reduceSub])) (by first | rfl | (simp (disch := omega) only [go_sem, ↓reduceIte, Nat.reduceEqDiff, reduceCtorEq, Nat.reduceAdd, Nat.reduceLeDiff, Nat.reduceMul, Int.reduceNeg, Int.reduceLT, Int.reduceAdd, Int.reduceSub])) (by first | rfl | simp [V.pures, V.pure, V.pures_t]) ?_
    rintro r3_2 h3_2 hh3_2 ⟨gw, rfl⟩ -
    try simp (disch := omega) only [go_sem, ↓reduceIte, Nat.reduceEqDiff, reduceCtorEq, Nat.reduceAdd, Nat.reduceLeDiff, Nat.reduceMul, Int.reduceNeg, Int.reduceLT, Int.reduceAdd, Int.reduceSub]
    refine hK5 _ ?_
    refine vc_seq fun K6 hK6 => ?_
    refine vc_reg ?_
    try simp (disch := omega) only [go_sem, ↓reduceIte, Nat.reduceEqDiff, reduceCtorEq, Nat.reduceAdd, Nat.reduceLeDiff, Nat.reduceMul, Int.reduceNeg, Int.reduceLT, Int.reduceAdd, Int.reduceSub]
    refine x_callO (caps := []) [] [.t (.str z), .t (.int .u8 c)] _ (impl_SplitByte hm z c hs hc) (by first | rfl | simp (disch := omega) only [go_sem, ↓reduceIte, Nat.reduceEqDiff, reduceCtorEq, Nat.reduceAdd, Nat.reduceLeDiff, Nat.reduceMul, Int.reduceNeg, Int.reduceLT, Int.reduceAdd, Int.reduceSub]) ?_ ?_
    · exact Subs.of_eq (by first | rfl | simp (disch := omega) only [go_sem, ↓reduceIte, Nat.reduceEqDiff, reduceCtorEq, Nat.reduceAdd, Nat.reduceLeDiff, Nat.reduceMul, Int.reduceNeg, Int.reduceLT, Int.reduceAdd, Int.reduceSub])
    rintro s dsr vsr Sr σ4_2 h4_2 ⟨rfl, gr, hEr⟩ hTr hk4_2 hSr hl4_2 hh4_2
    obtain ⟨dr, vr, rfl, rfl, hTr, hEr⟩ := hTr.er_one hEr
    try simp (disch := omega) only [go_sem, ↓reduceIte, Nat.reduceEqDiff, reduceCtorEq, Nat.reduceAdd, Nat.reduceLeDiff, Nat.reduceMul, Int.reduceNeg, Int.reduceLT, Int.reduceAdd, Int.reduceSub, Shp.v, List.headD_cons]
    refine hK6 _ ?_
    refine vc_seq fun K7 hK7 => ?_
    refine vc_seq fun K8 hK8 => ?_
    refine vc_reg ?_
    try simp (disch := omega) only [go_sem, ↓reduceIte, Nat.reduceEqDiff, reduceCtorEq, Nat.reduceAdd, Nat.reduceLeDiff, Nat.reduceMul, Int.reduceNeg, Int.reduceLT, Int.reduceAdd, Int.reduceSub]
    refine vcX_callS (caps := []) Sr [.t (.sl gr (Ts (sps (UInt8.ofNat c.toNat) z))), .t (.sl gw (Ts (sps (UInt8.ofNat c.toNat) z)))] _ (laws_eqStringS gr gw (sps (UInt8.ofNat c.toNat) z) (sps (UInt8.ofNat c.toNat) z) (by omega) (by omega)) (by first | rfl | simp (disch := omega) only [go_sem, ↓reduceIte, Nat.reduceEqDiff, reduceCtorEq, Nat.reduceAdd, Nat.reduceLeDiff, Nat.reduceMul, Int.reduceNeg, Int.reduceLT, Int.reduceAdd, Int.reduceSub]) ?_ ?_
    · show Subs [V.loc _ [] _ vr, V.t _] _
      exact Subs.cons (hTr.lendE hEr (fun r hr => hr)) (Subs.cons (.refl _) (Subs.nil))
    rintro r5_2 h5_2 hh5_2 rfl -
    refine ⟨fun q hq o ho hm => by simp [V.ids, T.ids] at hm, ?_⟩
    try simp (disch := omega) only [go_sem, ↓reduceIte, Nat.reduceEqDiff, reduceCtorEq, Nat.reduceAdd, Nat.reduceLeDiff, Nat.reduceMul, Int.reduceNeg, Int.reduceLT, Int.reduceAdd, Int.reduceSub]
    refine hK8 _ ?_
    refine vc_cond (t := _) (by first | rfl | (simp (disch := omega) only [go_sem, ↓reduceIte, Nat.reduceEqDiff, reduceCtorEq, Nat.reduceAdd, Nat.reduceLeDiff, Nat.reduceMul, Int.reduceNeg, Int.reduceLT, Int.reduceAdd, Int.reduceSub]; rfl)) (fun hc2 => ?_) (fun hc2 => ?_)
    · exact absurd hc2 (by simp)
    · (try simp only [go_sem] at hc2)
      refine vc_skip ?_
      refine hK7 _ ?_
      refine vc_seq fun K9 hK9 => ?_
      refine vc_reg ?_
      try simp (disch := omega) only [go_sem, ↓reduceIte, Nat.reduceEqDiff, reduceCtorEq, Nat.reduceAdd, Nat.reduceLeDiff, Nat.reduceMul, Int.reduceNeg, Int.reduceLT, Int.reduceAdd, Int.reduceSub]
      refine hK9 _ ?_
      refine vc_seq fun K10 hK10 => ?_
      refine vc_reg ?_
      try simp (disch := omega) only [go_sem, ↓reduceIte, Nat.reduceEqDiff, reduceCtorEq, Nat.reduceAdd, Nat.reduceLeDiff, Nat.reduceMul, Int.reduceNeg, Int.reduceLT, Int.reduceAdd, Int.reduceSub]
      refine x_callM (laws_markStringS_M dr gr (sps (UInt8.ofNat c.toNat) z) 1 hEr (by omega)) (TrL_one hTr) (by first | rfl | simp (disch := omega) only [go_sem, ↓reduceIte, Nat.reduceEqDiff, reduceCtorEq, Nat.reduceAdd, Nat.reduceLeDiff, Nat.reduceMul, Int.reduceNeg, Int.reduceLT, Int.reduceAdd, Int.reduceSub]) (by first | rfl | simp (disch := omega) only [go_sem, ↓reduceIte, Nat.reduceEqDiff, reduceCtorEq, Nat.reduceAdd, Nat.reduceLeDiff, Nat.reduceMul, Int.reduceNeg, Int.reduceLT, Int.reduceAdd, Int.reduceSub]) ?_
      rintro dsr σ8_2 h8_2 hTr hEr hk8_2 hl8_2 - hh8_2
      obtain ⟨gm, hEr⟩ := hEr
      obtain ⟨dr', vr', rfl, hvr, hTr, hEr⟩ := hTr.er_one hEr
      obtain rfl : vr = vr' := by simpa using hvr
      try simp (disch := omega) only [go_sem, ↓reduceIte, Nat.reduceEqDiff, reduceCtorEq, Nat.reduceAdd, Nat.reduceLeDiff, Nat.reduceMul, Int.reduceNeg, Int.reduceLT, Int.reduceAdd, Int.reduceSub]
      refine hK10 _ ?_
      refine vc_seq fun K11 hK11 => ?_
      refine vc_reg ?_
      try simp (disch := omega) only [go_sem, ↓reduceIte, Nat.reduceEqDiff, reduceCtorEq, Nat.reduceAdd, Nat.reduceLeDiff, Nat.reduceMul, Int.reduceNeg, Int.reduceLT, Int.reduceAdd, Int.reduceSub]
      refine hK11 _ ?_
      refine vc_seq fun K12 hK12 => ?_
      refine vc_reg ?_
      try simp (disch := omega) only [go_sem, ↓reduceIte, Nat.reduceEqDiff, reduceCtorEq, Nat.reduceAdd, Nat.reduceLeDiff, Nat.reduceMul, Int.reduceNeg, Int.reduceLT, Int.reduceAdd, Int.reduceSub]
      refine vcX_callS (caps := []) Sr [.t (.sl gm (Ts (mS 1 (sps (UInt8.ofNat c.toNat) z).length))), .t (.int .i64 ((1 : Nat) : Int))] _ (laws_heldStringS gm (sps (UInt8.ofNat c.toNat) z).length 1 (by omega)) (by first | rfl | simp (disch := omega) only [go_sem, ↓reduceIte, Nat.reduceEqDiff, reduceCtorEq, Nat.reduceAdd, Nat.reduceLeDiff, Nat.reduceMul, Int.reduceNeg, Int.reduceLT, Int.reduceAdd, Int.reduceSub]) ?_ ?_
      · show Subs [V.loc _ [] _ vr, V.t _] _
        exact Subs.cons (hTr.lendE hEr (fun r hr => hr)) (Subs.cons (.refl _) (Subs.nil))
      rintro r10_2 h10_2 hh10_2 rfl -
      refine ⟨fun q hq o ho hm => by simp [V.ids, T.ids] at hm, ?_⟩
      try simp (disch := omega) only [go_sem, ↓reduceIte, Nat.reduceEqDiff, reduceCtorEq, Nat.reduceAdd, Nat.reduceLeDiff, Nat.reduceMul, Int.reduceNeg, Int.reduceLT, Int.reduceAdd, Int.reduceSub]
      refine hK12 _ ?_
      refine vc_seq fun K13 hK13 => ?_
      refine vc_seq fun K14 hK14 => ?_
      refine vc_reg ?_
      try simp (disch := omega) only [go_sem, ↓reduceIte, Nat.reduceEqDiff, reduceCtorEq, Nat.reduceAdd, Nat.reduceLeDiff, Nat.reduceMul, Int.reduceNeg, Int.reduceLT, Int.reduceAdd, Int.reduceSub]
      refine hK14 _ ?_
      refine vc_cond (t := _) (by first | rfl | (simp (disch := omega) only [go_sem, ↓reduceIte, Nat.reduceEqDiff, reduceCtorEq, Nat.reduceAdd, Nat.reduceLeDiff, Nat.reduceMul, Int.reduceNeg, Int.reduceLT, Int.reduceAdd, Int.reduceSub]; rfl)) (fun hc3 => ?_) (fun hc3 => ?_)
      · exact absurd hc3 (by first | (simp; done) | omega | (simp; omega))
      · (try simp only [go_sem] at hc3)
        refine vc_skip ?_
        refine hK13 _ ?_
        refine vc_seq fun K15 hK15 => ?_
        refine vc_seq fun K16 hK16 => ?_
        refine vc_reg ?_
        try simp (disch := omega) only [go_sem, ↓reduceIte, Nat.reduceEqDiff, reduceCtorEq, Nat.reduceAdd, Nat.reduceLeDiff, Nat.reduceMul, Int.reduceNeg, Int.reduceLT, Int.reduceAdd, Int.reduceSub]
        refine hK16 _ ?_
        refine vc_cond (t := _) (by first | rfl | (simp (disch := omega) only [go_sem, ↓reduceIte, Nat.reduceEqDiff, reduceCtorEq, Nat.reduceAdd, Nat.reduceLeDiff, Nat.reduceMul, Int.reduceNeg, Int.reduceLT, Int.reduceAdd, Int.reduceSub]; rfl)) (fun hc4 => ?_) (fun hc4 => ?_)
        · exact absurd hc4 (by first | (simp; done) | omega | (simp; omega))
        · (try simp only [go_sem] at hc4)
          refine vc_skip ?_
          refine hK15 _ ?_
          refine vc_seq fun K17 hK17 => ?_
          refine vc_reg ?_
          try simp (disch := omega) only [go_sem, ↓reduceIte, Nat.reduceEqDiff, reduceCtorEq, Nat.reduceAdd, Nat.reduceLeDiff, Nat.reduceMul, Int.reduceNeg, Int.reduceLT, Int.reduceAdd, Int.reduceSub]
          refine x_callN (caps := []) [] [.t (.str z), .t (.int .u8 c)] _ ((impl_SplitByte hm z c hs hc).fresh (by rintro s ts ⟨_, g', rfl⟩; exact .inl rfl)) (by first | rfl | simp (disch := omega) only [go_sem, ↓reduceIte, Nat.reduceEqDiff, reduceCtorEq, Nat.reduceAdd, Nat.reduceLeDiff, Nat.reduceMul, Int.reduceNeg, Int.reduceLT, Int.reduceAdd, Int.reduceSub]) ?_ ?_
          · exact Subs.of_eq (by first | rfl | simp (disch := omega) only [go_sem, ↓reduceIte, Nat.reduceEqDiff, reduceCtorEq, Nat.reduceAdd, Nat.reduceLeDiff, Nat.reduceMul, Int.reduceNeg, Int.reduceLT, Int.reduceAdd, Int.reduceSub])
          rintro r15_2 h15_2 hh15_2 ⟨s, ts, rfl, rfl, gh, rfl⟩ -
          try simp (disch := omega) only [go_sem, ↓reduceIte, Nat.reduceEqDiff, reduceCtorEq, Nat.reduceAdd, Nat.reduceLeDiff, Nat.reduceMul, Int.reduceNeg, Int.reduceLT, Int.reduceAdd, Int.reduceSub, Shp.v, List.map_cons, List.map_nil, List.headD_cons]
          refine hK17 _ ?_
          refine vc_seq fun K18 hK18 => ?_
          refine vc_seq fun K19 hK19 => ?_
          refine vc_reg ?_
          try simp (disch := omega) only [go_sem, ↓reduceIte, Nat.reduceEqDiff, reduceCtorEq, Nat.reduceAdd, Nat.reduceLeDiff, Nat.reduceMul, Int.reduceNeg, Int.reduceLT, Int.reduceAdd, Int.reduceSub]
          refine vcX_call _ _ (laws_eqStringS gh gw (sps (UInt8.ofNat c.toNat) z) (sps (UInt8.ofNat c.toNat) z) (by omega) (by omega)) (by first | rfl | (simp (disch := omega) only [go_sem, ↓reduceIte, Nat.reduceEqDiff, reduceCtorEq, Nat.reduceAdd, Nat.reduceLeDiff, Nat.reduceMul, Int.reduceNeg, Int.reduceLT, Int.reduceAdd, Int.reduceSub])) (by first | rfl | (simp (disch := omega) only [go_sem, ↓reduceIte, Nat.reduceEqDiff, reduceCtorEq, Nat.reduceAdd, Nat.reduceLeDiff, Nat.reduceMul, Int.reduceNeg, Int.reduceLT, Int.reduceAdd, Int.reduceSub])) (by first | rfl | simp [V.pures, V.pure, V.pures_t]) ?_
          rintro r16_2 h16_2 hh16_2 rfl -
          try simp (disch := omega) only [go_sem, ↓reduceIte, Nat.reduceEqDiff, reduceCtorEq, Nat.reduceAdd, Nat.reduceLeDiff, Nat.reduceMul, Int.reduceNeg, Int.reduceLT, Int.reduceAdd, Int.reduceSub]
          refine hK19 _ ?_
          refine vc_cond (t := _) (by first | rfl | (simp (disch := omega) only [go_sem, ↓reduceIte, Nat.reduceEqDiff, reduceCtorEq, Nat.reduceAdd, Nat.reduceLeDiff, Nat.reduceMul, Int.reduceNeg, Int.reduceLT, Int.reduceAdd, Int.reduceSub]; rfl)) (fun hc5 => ?_) (fun hc5 => ?_)
          · exact absurd hc5 (by simp)
          · (try simp only [go_sem] at hc5)
            refine vc_skip ?_
            refine hK18 _ ?_
            refine vc_seq fun K20 hK20 => ?_
            refine vc_reg ?_
            try simp (disch := omega) only [go_sem, ↓reduceIte, Nat.reduceEqDiff, reduceCtorEq, Nat.reduceAdd, Nat.reduceLeDiff, Nat.reduceMul, Int.reduceNeg, Int.reduceLT, Int.reduceAdd, Int.reduceSub]
            refine hK20 _ ?_
            refine vc_seq fun K21 hK21 => ?_
            refine vc_reg ?_
            try simp (disch := omega) only [go_sem, ↓reduceIte, Nat.reduceEqDiff, reduceCtorEq, Nat.reduceAdd, Nat.reduceLeDiff, Nat.reduceMul, Int.reduceNeg, Int.reduceLT, Int.reduceAdd, Int.reduceSub]
            refine vcX_callS (caps := []) Sr [.t (.sl gm (Ts (mS 1 (sps (UInt8.ofNat c.toNat) z).length))), .t (.int .i64 ((1 : Nat) : Int))] _ (laws_heldStringS gm (sps (UInt8.ofNat c.toNat) z).length 1 (by omega)) (by first | rfl | simp (disch := omega) only [go_sem, ↓reduceIte, Nat.reduceEqDiff, reduceCtorEq, Nat.reduceAdd, Nat.reduceLeDiff, Nat.reduceMul, Int.reduceNeg, Int.reduceLT, Int.reduceAdd, Int.reduceSub]) ?_ ?_
            · show Subs [V.loc _ [] _ vr, V.t _] _
              exact Subs.cons (hTr.lendE hEr (fun r hr => hr)) (Subs.cons (.refl _) (Subs.nil))
            rintro r19_2 h19_2 hh19_2 rfl -
            refine ⟨fun q hq o ho hm => by simp [V.ids, T.ids] at hm, ?_⟩
            try simp (disch := omega) only [go_sem, ↓reduceIte, Nat.reduceEqDiff, reduceCtorEq, Nat.reduceAdd, Nat.reduceLeDiff, Nat.reduceMul, Int.reduceNeg, Int.reduceLT, Int.reduceAdd, Int.reduceSub]
            refine hK21 _ ?_
            refine vc_seq fun K22 hK22 => ?_
            refine vc_seq fun K23 hK23 => ?_
            refine vc_reg ?_
            try simp (disch := omega) only [go_sem, ↓reduceIte, Nat.reduceEqDiff, reduceCtorEq, Nat.reduceAdd, Nat.reduceLeDiff, Nat.reduceMul, Int.reduceNeg, Int.reduceLT, Int.reduceAdd, Int.reduceSub]
            refine hK23 _ ?_
            refine vc_cond (t := _) (by first | rfl | (simp (disch := omega) only [go_sem, ↓reduceIte, Nat.reduceEqDiff, reduceCtorEq, Nat.reduceAdd, Nat.reduceLeDiff, Nat.reduceMul, Int.reduceNeg, Int.reduceLT, Int.reduceAdd, Int.reduceSub]; rfl)) (fun hc6 => ?_) (fun hc6 => ?_)
            · exact absurd hc6 (by first | (simp; done) | omega | (simp; omega))
            · (try simp only [go_sem] at hc6)
              refine vc_skip ?_
              refine hK22 _ ?_
              refine vc_seq fun K24 hK24 => ?_
              refine vc_seq fun K25 hK25 => ?_
              refine vc_reg ?_
              try simp (disch := omega) only [go_sem, ↓reduceIte, Nat.reduceEqDiff, reduceCtorEq, Nat.reduceAdd, Nat.reduceLeDiff, Nat.reduceMul, Int.reduceNeg, Int.reduceLT, Int.reduceAdd, Int.reduceSub]
              refine hK25 _ ?_
              refine vc_cond (t := _) (by first | rfl | (simp (disch := omega) only [go_sem, ↓reduceIte, Nat.reduceEqDiff, reduceCtorEq, Nat.reduceAdd, Nat.reduceLeDiff, Nat.reduceMul, Int.reduceNeg, Int.reduceLT, Int.reduceAdd, Int.reduceSub]; rfl)) (fun hc7 => ?_) (fun hc7 => ?_)
              · exact absurd hc7 (by first | (simp; done) | omega | (simp; omega))
              · (try simp only [go_sem] at hc7)
                refine vc_skip ?_
                refine hK24 _ ?_
                refine vc_seq fun K26 hK26 => ?_
                refine vc_reg ?_
                try simp (disch := omega) only [go_sem, ↓reduceIte, Nat.reduceEqDiff, reduceCtorEq, Nat.reduceAdd, Nat.reduceLeDiff, Nat.reduceMul, Int.reduceNeg, Int.reduceLT, Int.reduceAdd, Int.reduceSub]
                refine hK26 _ ?_
                refine vc_ret ?_
                refine ⟨_, by first | rfl | (simp only [go_sem, resQ, List.mapM_cons, List.mapM_nil, ↓reduceIte, Nat.reduceEqDiff, Nat.reduceAdd, Nat.reduceLeDiff, reduceCtorEq]; rfl), [], [], .nil, by simp, by simp, fun hi_ h1_ => ⟨?_, rfl, rfl⟩, by simp⟩
                first | rfl | simp_all
end Go.Proofs.YtabbiihekappeaaDoor
