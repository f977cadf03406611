/- Walks through the code: each function's contract. -/
import Derived.Test.YtldhhppfnhgcdaaGreatWEQ
import Derived.Test.YtldhhppfnhgcdaaGreatWFQ
set_option linter.unusedVariables false
set_option linter.unusedSimpArgs false
set_option maxRecDepth 8000
namespace Go.Proofs.YtldhhppfnhgcdaaGreat
open Go Go.VL

end Go.Proofs.YtldhhppfnhgcdaaGreat
namespace Go.VL
/-- Has a node one of the four forms? -/
def formOk (k : Int) (nm : ByteArray) (n : Nat) : Bool :=
  if k = 1 then nameOk nm && ((n : Int) == 0) else if k = 2 then conOk nm && decide ((n : Int) ≤ 5) else if k = 3 then nameOk nm && decide ((n : Int) ≤ 5) else if k = 4 then decide (nm = ⟨#[]⟩) && ((n : Int) == 0) else false
mutual
/-- Have all nodes one of the four forms? -/
def E.af : E → Bool
  | .mk k nm us => formOk k nm us.length && E.afL us
def E.afL : List E → Bool
  | [] => true
  | e :: l => E.af e && E.afL l
end
theorem E.afL_drop {l : List E} {n : Nat} (h : n < l.length) : E.afL (l.drop n) = (E.af l[n] && E.afL (l.drop (n + 1))) := by rw [drop_get h, E.afL]
mutual
/-- Are all nodes constructors? -/
def E.dt : E → Bool
  | .mk k _ us => decide (k = 2) && E.dtL us
def E.dtL : List E → Bool
  | [] => true
  | e :: l => E.dt e && E.dtL l
end
theorem E.dtL_drop {l : List E} {n : Nat} (h : n < l.length) : E.dtL (l.drop n) = (E.dt l[n] && E.dtL (l.drop (n + 1))) := by rw [drop_get h, E.dtL]
end Go.VL
namespace Go.Proofs.YtldhhppfnhgcdaaGreat
open Go Go.VL

/-- spec.l3Form -/
theorem spec_l3Form (e : E) (c : List T) (hc : e.rep c) (hn : e.name.size < 2^40) (hl : e.args.length < 2^40) : FCtr Tryz.prog 99 [.agg (c.map .t)] (fun r => r = .t (.bool (formOk e.kind e.name e.args.length))) := by
  obtain ⟨k, nm, us⟩ := e
  obtain ⟨g, cs, rfl, ha⟩ := E.rep_mk hc
  have hcl := E.repL_len ha
  simp only [E.kind, E.name, E.args] at hn hl ⊢
  refine Ctr.of_vc (rs := [.tmp 2]) (fn := Tryz.f99) mixed Tryz.func99 rfl rfl (by kernel_rfl) (by kernel_rfl) (by simp [Tryz.ntmps99]) (fun h0 => ?_)
  refine vc_seq fun K1 hK1 => ?_
  refine vc_reg ?_
  try simp (disch := omega) only [go_sem, ↓reduceIte, Nat.reduceEqDiff, reduceCtorEq, Nat.reduceAdd, Nat.reduceLeDiff, Nat.reduceMul, Int.reduceNeg, Int.reduceLT, Int.reduceAdd, Int.reduceSub, hcl]
  intro g0_0 hg0_0
  refine hK1 _ ?_
  refine vc_seq fun K2 hK2 => ?_
  refine vc_seq fun K3 hK3 => ?_
  refine vc_reg ?_
  try simp (disch := omega) only [go_sem, ↓reduceIte, Nat.reduceEqDiff, reduceCtorEq, Nat.reduceAdd, Nat.reduceLeDiff, Nat.reduceMul, Int.reduceNeg, Int.reduceLT, Int.reduceAdd, Int.reduceSub, hcl]
  refine hK3 _ ?_
  refine vc_block ?_
  refine vc_seq fun K4 hK4 => ?_
  refine vc_reg ?_
  try simp (disch := omega) only [go_sem, ↓reduceIte, Nat.reduceEqDiff, reduceCtorEq, Nat.reduceAdd, Nat.reduceLeDiff, Nat.reduceMul, Int.reduceNeg, Int.reduceLT, Int.reduceAdd, Int.reduceSub, hcl]
  refine hK4 _ ?_
  refine vc_cond (t := _) rfl (fun hc1 => ?_) (fun hc1 => ?_)
  · (try simp only [go_sem] at hc1)
    refine vc_seq fun K5 hK5 => ?_
    refine vc_reg ?_
    refine vcX_cut 4 fun K6 hK6 => ?_
    try simp (disch := omega) only [go_sem, ↓reduceIte, Nat.reduceEqDiff, reduceCtorEq, Nat.reduceAdd, Nat.reduceLeDiff, Nat.reduceMul, Int.reduceNeg, Int.reduceLT, Int.reduceAdd, Int.reduceSub, hcl]
    refine vcX_call _ _ (spec_IsName nm hn) rfl rfl (by first | rfl | simp [V.pures, V.pure, V.pures_t]) ?_
    rintro r3_2 h3_2 hh3_2 rfl -
    try simp (disch := omega) only [go_sem, ↓reduceIte, Nat.reduceEqDiff, reduceCtorEq, Nat.reduceAdd, Nat.reduceLeDiff, Nat.reduceMul, Int.reduceNeg, Int.reduceLT, Int.reduceAdd, Int.reduceSub, hcl]
    refine hK6 _ ?_
    refine vcX_bool (fun hb3_3 => ?_) (fun hb3_3 => ?_)
    · (try simp only [go_sem] at hb3_3)
      try simp (disch := omega) only [go_sem, ↓reduceIte, Nat.reduceEqDiff, reduceCtorEq, Nat.reduceAdd, Nat.reduceLeDiff, Nat.reduceMul, Int.reduceNeg, Int.reduceLT, Int.reduceAdd, Int.reduceSub, hcl]
      refine hK5 _ ?_
      refine vc_ret ?_
      refine ⟨_, by first | rfl | (simp only [go_sem, resQ, List.mapM_cons, List.mapM_nil, ↓reduceIte, Nat.reduceEqDiff, Nat.reduceAdd, Nat.reduceLeDiff, reduceCtorEq]; rfl), [], [], .nil, by simp, by simp, fun hi_ h1_ => ⟨?_, rfl, rfl⟩, by simp⟩
      show V.t (T.bool _) = V.t (T.bool _)
      simp only [formOk, hc1, hb3_3, if_true]; try simp
    · (try simp only [go_sem] at hb3_3)
      try simp (disch := omega) only [go_sem, ↓reduceIte, Nat.reduceEqDiff, reduceCtorEq, Nat.reduceAdd, Nat.reduceLeDiff, Nat.reduceMul, Int.reduceNeg, Int.reduceLT, Int.reduceAdd, Int.reduceSub, hcl]
      refine hK5 _ ?_
      refine vc_ret ?_
      refine ⟨_, by first | rfl | (simp only [go_sem, resQ, List.mapM_cons, List.mapM_nil, ↓reduceIte, Nat.reduceEqDiff, Nat.reduceAdd, Nat.reduceLeDiff, reduceCtorEq]; rfl), [], [], .nil, by simp, by simp, fun hi_ h1_ => ⟨?_, rfl, rfl⟩, by simp⟩
      show V.t (T.bool _) = V.t (T.bool _)
      simp only [formOk, hc1, hb3_3, if_true]; try simp
  · (try simp only [go_sem] at hc1)
    refine vc_seq fun K8 hK8 => ?_
    refine vc_reg ?_
    try simp (disch := omega) only [go_sem, ↓reduceIte, Nat.reduceEqDiff, reduceCtorEq, Nat.reduceAdd, Nat.reduceLeDiff, Nat.reduceMul, Int.reduceNeg, Int.reduceLT, Int.reduceAdd, Int.reduceSub, hcl]
    refine hK8 _ ?_
    refine vc_cond (t := _) rfl (fun hc2 => ?_) (fun hc2 => ?_)
    · (try simp only [go_sem] at hc2)
      refine vc_seq fun K9 hK9 => ?_
      refine vc_reg ?_
      refine vcX_cut 4 fun K10 hK10 => ?_
      try simp (disch := omega) only [go_sem, ↓reduceIte, Nat.reduceEqDiff, reduceCtorEq, Nat.reduceAdd, Nat.reduceLeDiff, Nat.reduceMul, Int.reduceNeg, Int.reduceLT, Int.reduceAdd, Int.reduceSub, hcl]
      refine vcX_call _ _ (spec_IsConName nm hn) rfl rfl (by first | rfl | simp [V.pures, V.pure, V.pures_t]) ?_
      rintro r5_2 h5_2 hh5_2 rfl -
      try simp (disch := omega) only [go_sem, ↓reduceIte, Nat.reduceEqDiff, reduceCtorEq, Nat.reduceAdd, Nat.reduceLeDiff, Nat.reduceMul, Int.reduceNeg, Int.reduceLT, Int.reduceAdd, Int.reduceSub, hcl]
      refine hK10 _ ?_
      refine vcX_bool (fun hb5_3 => ?_) (fun hb5_3 => ?_)
      · (try simp only [go_sem] at hb5_3)
        try simp (disch := omega) only [go_sem, ↓reduceIte, Nat.reduceEqDiff, reduceCtorEq, Nat.reduceAdd, Nat.reduceLeDiff, Nat.reduceMul, Int.reduceNeg, Int.reduceLT, Int.reduceAdd, Int.reduceSub, hcl]
        refine hK9 _ ?_
        refine vc_ret ?_
        refine ⟨_, by first | rfl | (simp only [go_sem, resQ, List.mapM_cons, List.mapM_nil, ↓reduceIte, Nat.reduceEqDiff, Nat.reduceAdd, Nat.reduceLeDiff, reduceCtorEq]; rfl), [], [], .nil, by simp, by simp, fun hi_ h1_ => ⟨?_, rfl, rfl⟩, by simp⟩
        show V.t (T.bool _) = V.t (T.bool _)
        simp only [formOk, hc1, hc2, hb5_3, if_true, if_false]; try simp
      · (try simp only [go_sem] at hb5_3)
        try simp (disch := omega) only [go_sem, ↓reduceIte, Nat.reduceEqDiff, reduceCtorEq, Nat.reduceAdd, Nat.reduceLeDiff, Nat.reduceMul, Int.reduceNeg, Int.reduceLT, Int.reduceAdd, Int.reduceSub, hcl]
        refine hK9 _ ?_
        refine vc_ret ?_
        refine ⟨_, by first | rfl | (simp only [go_sem, resQ, List.mapM_cons, List.mapM_nil, ↓reduceIte, Nat.reduceEqDiff, Nat.reduceAdd, Nat.reduceLeDiff, reduceCtorEq]; rfl), [], [], .nil, by simp, by simp, fun hi_ h1_ => ⟨?_, rfl, rfl⟩, by simp⟩
        show V.t (T.bool _) = V.t (T.bool _)
        simp only [formOk, hc1, hc2, hb5_3, if_true, if_false]; try simp
    · (try simp only [go_sem] at hc2)
      refine vc_seq fun K12 hK12 => ?_
      refine vc_reg ?_
      try simp (disch := omega) only [go_sem, ↓reduceIte, Nat.reduceEqDiff, reduceCtorEq, Nat.reduceAdd, Nat.reduceLeDiff, Nat.reduceMul, Int.reduceNeg, Int.reduceLT, Int.reduceAdd, Int.reduceSub, hcl]
      refine hK12 _ ?_
      refine vc_cond (t := _) rfl (fun hc3 => ?_) (fun hc3 => ?_)
      · (try simp only [go_sem] at hc3)
        refine vc_seq fun K13 hK13 => ?_
        refine vc_reg ?_
        refine vcX_cut 4 fun K14 hK14 => ?_
        try simp (disch := omega) only [go_sem, ↓reduceIte, Nat.reduceEqDiff, reduceCtorEq, Nat.reduceAdd, Nat.reduceLeDiff, Nat.reduceMul, Int.reduceNeg, Int.reduceLT, Int.reduceAdd, Int.reduceSub, hcl]
        refine vcX_call _ _ (spec_IsName nm hn) rfl rfl (by first | rfl | simp [V.pures, V.pure, V.pures_t]) ?_
        rintro r7_2 h7_2 hh7_2 rfl -
        try simp (disch := omega) only [go_sem, ↓reduceIte, Nat.reduceEqDiff, reduceCtorEq, Nat.reduceAdd, Nat.reduceLeDiff, Nat.reduceMul, Int.reduceNeg, Int.reduceLT, Int.reduceAdd, Int.reduceSub, hcl]
        refine hK14 _ ?_
        refine vcX_bool (fun hb7_3 => ?_) (fun hb7_3 => ?_)
        · (try simp only [go_sem] at hb7_3)
          try simp (disch := omega) only [go_sem, ↓reduceIte, Nat.reduceEqDiff, reduceCtorEq, Nat.reduceAdd, Nat.reduceLeDiff, Nat.reduceMul, Int.reduceNeg, Int.reduceLT, Int.reduceAdd, Int.reduceSub, hcl]
          refine hK13 _ ?_
          refine vc_ret ?_
          refine ⟨_, by first | rfl | (simp only [go_sem, resQ, List.mapM_cons, List.mapM_nil, ↓reduceIte, Nat.reduceEqDiff, Nat.reduceAdd, Nat.reduceLeDiff, reduceCtorEq]; rfl), [], [], .nil, by simp, by simp, fun hi_ h1_ => ⟨?_, rfl, rfl⟩, by simp⟩
          show V.t (T.bool _) = V.t (T.bool _)
          simp only [formOk, hc1, hc2, hc3, hb7_3, if_true, if_false]; try simp
        · (try simp only [go_sem] at hb7_3)
          try simp (disch := omega) only [go_sem, ↓reduceIte, Nat.reduceEqDiff, reduceCtorEq, Nat.reduceAdd, Nat.reduceLeDiff, Nat.reduceMul, Int.reduceNeg, Int.reduceLT, Int.reduceAdd, Int.reduceSub, hcl]
          refine hK13 _ ?_
          refine vc_ret ?_
          refine ⟨_, by first | rfl | (simp only [go_sem, resQ, List.mapM_cons, List.mapM_nil, ↓reduceIte, Nat.reduceEqDiff, Nat.reduceAdd, Nat.reduceLeDiff, reduceCtorEq]; rfl), [], [], .nil, by simp, by simp, fun hi_ h1_ => ⟨?_, rfl, rfl⟩, by simp⟩
          show V.t (T.bool _) = V.t (T.bool _)
          simp only [formOk, hc1, hc2, hc3, hb7_3, if_true, if_false]; try simp
      · (try simp only [go_sem] at hc3)
        refine vc_seq fun K16 hK16 => ?_
        refine vc_reg ?_
        try simp (disch := omega) only [go_sem, ↓reduceIte, Nat.reduceEqDiff, reduceCtorEq, Nat.reduceAdd, Nat.reduceLeDiff, Nat.reduceMul, Int.reduceNeg, Int.reduceLT, Int.reduceAdd, Int.reduceSub, hcl]
        refine hK16 _ ?_
        refine vc_cond (t := _) rfl (fun hc4 => ?_) (fun hc4 => ?_)
        · (try simp only [go_sem] at hc4)
          refine vc_seq fun K17 hK17 => ?_
          refine vc_reg ?_
          refine vcX_cut 4 fun K18 hK18 => ?_
          try simp (disch := omega) only [go_sem, ↓reduceIte, Nat.reduceEqDiff, reduceCtorEq, Nat.reduceAdd, Nat.reduceLeDiff, Nat.reduceMul, Int.reduceNeg, Int.reduceLT, Int.reduceAdd, Int.reduceSub, hcl]
          refine hK18 _ ?_
          refine vcX_bool (fun hb9_3 => ?_) (fun hb9_3 => ?_)
          · (try simp only [go_sem] at hb9_3)
            try simp (disch := omega) only [go_sem, ↓reduceIte, Nat.reduceEqDiff, reduceCtorEq, Nat.reduceAdd, Nat.reduceLeDiff, Nat.reduceMul, Int.reduceNeg, Int.reduceLT, Int.reduceAdd, Int.reduceSub, hcl]
            refine hK17 _ ?_
            refine vc_ret ?_
            refine ⟨_, by first | rfl | (simp only [go_sem, resQ, List.mapM_cons, List.mapM_nil, ↓reduceIte, Nat.reduceEqDiff, Nat.reduceAdd, Nat.reduceLeDiff, reduceCtorEq]; rfl), [], [], .nil, by simp, by simp, fun hi_ h1_ => ⟨?_, rfl, rfl⟩, by simp⟩
            show V.t (T.bool _) = V.t (T.bool _)
            simp only [formOk, hc1, hc2, hc3, hc4, hb9_3, if_true, if_false]; try simp
          · (try simp only [go_sem] at hb9_3)
            try simp (disch := omega) only [go_sem, ↓reduceIte, Nat.reduceEqDiff, reduceCtorEq, Nat.reduceAdd, Nat.reduceLeDiff, Nat.reduceMul, Int.reduceNeg, Int.reduceLT, Int.reduceAdd, Int.reduceSub, hcl]
            refine hK17 _ ?_
            refine vc_ret ?_
            refine ⟨_, by first | rfl | (simp only [go_sem, resQ, List.mapM_cons, List.mapM_nil, ↓reduceIte, Nat.reduceEqDiff, Nat.reduceAdd, Nat.reduceLeDiff, reduceCtorEq]; rfl), [], [], .nil, by simp, by simp, fun hi_ h1_ => ⟨?_, rfl, rfl⟩, by simp⟩
            show V.t (T.bool _) = V.t (T.bool _)
            simp only [formOk, hc1, hc2, hc3, hc4, hb9_3, if_true, if_false]; try simp
        · (try simp only [go_sem] at hc4)
          refine vc_skip ?_
          refine hK2 _ ?_
          refine vc_seq fun K20 hK20 => ?_
          refine vc_reg ?_
          try simp (disch := omega) only [go_sem, ↓reduceIte, Nat.reduceEqDiff, reduceCtorEq, Nat.reduceAdd, Nat.reduceLeDiff, Nat.reduceMul, Int.reduceNeg, Int.reduceLT, Int.reduceAdd, Int.reduceSub, hcl]
          refine hK20 _ ?_
          refine vc_ret ?_
          refine ⟨_, by first | rfl | (simp only [go_sem, resQ, List.mapM_cons, List.mapM_nil, ↓reduceIte, Nat.reduceEqDiff, Nat.reduceAdd, Nat.reduceLeDiff, reduceCtorEq]; rfl), [], [], .nil, by simp, by simp, fun hi_ h1_ => ⟨?_, rfl, rfl⟩, by simp⟩
          show V.t (T.bool _) = V.t (T.bool _)
          simp only [formOk, hc1, hc2, hc3, hc4, if_false]; try simp

/-- impl.isForm -/
theorem impl_isForm (e : E) (c : List T) (hc : e.rep c) (hn : e.name.size < 2^40) (hl : e.args.length < 2^40) : FCtr Tryz.prog 89 [.agg (c.map .t)] (fun r => r = .t (.bool (formOk e.kind e.name e.args.length))) := by
  obtain ⟨k, nm, us⟩ := e
  obtain ⟨g, cs, rfl, ha⟩ := E.rep_mk hc
  have hcl := E.repL_len ha
  simp only [E.kind, E.name, E.args] at hn hl ⊢
  refine Ctr.of_vc (rs := [.tmp 2]) (fn := Tryz.f89) mixed Tryz.func89 rfl rfl (by kernel_rfl) (by kernel_rfl) (by simp [Tryz.ntmps89]) (fun h0 => ?_)
  refine vc_seq fun K1 hK1 => ?_
  refine vc_reg ?_
  try simp (disch := omega) only [go_sem, ↓reduceIte, Nat.reduceEqDiff, reduceCtorEq, Nat.reduceAdd, Nat.reduceLeDiff, Nat.reduceMul, Int.reduceNeg, Int.reduceLT, Int.reduceAdd, Int.reduceSub, hcl]
  intro g0_0 hg0_0
  refine hK1 _ ?_
  refine vc_seq fun K2 hK2 => ?_
  refine vc_seq fun K3 hK3 => ?_
  refine vc_reg ?_
  try simp (disch := omega) only [go_sem, ↓reduceIte, Nat.reduceEqDiff, reduceCtorEq, Nat.reduceAdd, Nat.reduceLeDiff, Nat.reduceMul, Int.reduceNeg, Int.reduceLT, Int.reduceAdd, Int.reduceSub, hcl]
  refine hK3 _ ?_
  refine vc_block ?_
  refine vc_seq fun K4 hK4 => ?_
  refine vc_reg ?_
  try simp (disch := omega) only [go_sem, ↓reduceIte, Nat.reduceEqDiff, reduceCtorEq, Nat.reduceAdd, Nat.reduceLeDiff, Nat.reduceMul, Int.reduceNeg, Int.reduceLT, Int.reduceAdd, Int.reduceSub, hcl]
  refine hK4 _ ?_
  refine vc_cond (t := _) rfl (fun hc1 => ?_) (fun hc1 => ?_)
  · (try simp only [go_sem] at hc1)
    refine vc_seq fun K5 hK5 => ?_
    refine vc_reg ?_
    refine vcX_cut 4 fun K6 hK6 => ?_
    try simp (disch := omega) only [go_sem, ↓reduceIte, Nat.reduceEqDiff, reduceCtorEq, Nat.reduceAdd, Nat.reduceLeDiff, Nat.reduceMul, Int.reduceNeg, Int.reduceLT, Int.reduceAdd, Int.reduceSub, hcl]
    refine vcX_call _ _ (impl_IsName nm hn) rfl rfl (by first | rfl | simp [V.pures, V.pure, V.pures_t]) ?_
    rintro r3_2 h3_2 hh3_2 rfl -
    try simp (disch := omega) only [go_sem, ↓reduceIte, Nat.reduceEqDiff, reduceCtorEq, Nat.reduceAdd, Nat.reduceLeDiff, Nat.reduceMul, Int.reduceNeg, Int.reduceLT, Int.reduceAdd, Int.reduceSub, hcl]
    refine hK6 _ ?_
    refine vcX_bool (fun hb3_3 => ?_) (fun hb3_3 => ?_)
    · (try simp only [go_sem] at hb3_3)
      try simp (disch := omega) only [go_sem, ↓reduceIte, Nat.reduceEqDiff, reduceCtorEq, Nat.reduceAdd, Nat.reduceLeDiff, Nat.reduceMul, Int.reduceNeg, Int.reduceLT, Int.reduceAdd, Int.reduceSub, hcl]
      refine hK5 _ ?_
      refine vc_ret ?_
      refine ⟨_, by first | rfl | (simp only [go_sem, resQ, List.mapM_cons, List.mapM_nil, ↓reduceIte, Nat.reduceEqDiff, Nat.reduceAdd, Nat.reduceLeDiff, reduceCtorEq]; rfl), [], [], .nil, by simp, by simp, fun hi_ h1_ => ⟨?_, rfl, rfl⟩, by simp⟩
      show V.t (T.bool _) = V.t (T.bool _)
      simp only [formOk, hc1, hb3_3, if_true]; try simp
    · (try simp only [go_sem] at hb3_3)
      try simp (disch := omega) only [go_sem, ↓reduceIte, Nat.reduceEqDiff, reduceCtorEq, Nat.reduceAdd, Nat.reduceLeDiff, Nat.reduceMul, Int.reduceNeg, Int.reduceLT, Int.reduceAdd, Int.reduceSub, hcl]
      refine hK5 _ ?_
      refine vc_ret ?_
      refine ⟨_, by first | rfl | (simp only [go_sem, resQ, List.mapM_cons, List.mapM_nil, ↓reduceIte, Nat.reduceEqDiff, Nat.reduceAdd, Nat.reduceLeDiff, reduceCtorEq]; rfl), [], [], .nil, by simp, by simp, fun hi_ h1_ => ⟨?_, rfl, rfl⟩, by simp⟩
      show V.t (T.bool _) = V.t (T.bool _)
      simp only [formOk, hc1, hb3_3, if_true]; try simp
  · (try simp only [go_sem] at hc1)
    refine vc_seq fun K8 hK8 => ?_
    refine vc_reg ?_
    try simp (disch := omega) only [go_sem, ↓reduceIte, Nat.reduceEqDiff, reduceCtorEq, Nat.reduceAdd, Nat.reduceLeDiff, Nat.reduceMul, Int.reduceNeg, Int.reduceLT, Int.reduceAdd, Int.reduceSub, hcl]
    refine hK8 _ ?_
    refine vc_cond (t := _) rfl (fun hc2 => ?_) (fun hc2 => ?_)
    · (try simp only [go_sem] at hc2)
      refine vc_seq fun K9 hK9 => ?_
      refine vc_reg ?_
      refine vcX_cut 4 fun K10 hK10 => ?_
      try simp (disch := omega) only [go_sem, ↓reduceIte, Nat.reduceEqDiff, reduceCtorEq, Nat.reduceAdd, Nat.reduceLeDiff, Nat.reduceMul, Int.reduceNeg, Int.reduceLT, Int.reduceAdd, Int.reduceSub, hcl]
      refine vcX_call _ _ (impl_IsConName nm hn) rfl rfl (by first | rfl | simp [V.pures, V.pure, V.pures_t]) ?_
      rintro r5_2 h5_2 hh5_2 rfl -
      try simp (disch := omega) only [go_sem, ↓reduceIte, Nat.reduceEqDiff, reduceCtorEq, Nat.reduceAdd, Nat.reduceLeDiff, Nat.reduceMul, Int.reduceNeg, Int.reduceLT, Int.reduceAdd, Int.reduceSub, hcl]
      refine hK10 _ ?_
      refine vcX_bool (fun hb5_3 => ?_) (fun hb5_3 => ?_)
      · (try simp only [go_sem] at hb5_3)
        try simp (disch := omega) only [go_sem, ↓reduceIte, Nat.reduceEqDiff, reduceCtorEq, Nat.reduceAdd, Nat.reduceLeDiff, Nat.reduceMul, Int.reduceNeg, Int.reduceLT, Int.reduceAdd, Int.reduceSub, hcl]
        refine hK9 _ ?_
        refine vc_ret ?_
        refine ⟨_, by first | rfl | (simp only [go_sem, resQ, List.mapM_cons, List.mapM_nil, ↓reduceIte, Nat.reduceEqDiff, Nat.reduceAdd, Nat.reduceLeDiff, reduceCtorEq]; rfl), [], [], .nil, by simp, by simp, fun hi_ h1_ => ⟨?_, rfl, rfl⟩, by simp⟩
        show V.t (T.bool _) = V.t (T.bool _)
        simp only [formOk, hc1, hc2, hb5_3, if_true, if_false]; try simp
      · (try simp only [go_sem] at hb5_3)
        try simp (disch := omega) only [go_sem, ↓reduceIte, Nat.reduceEqDiff, reduceCtorEq, Nat.reduceAdd, Nat.reduceLeDiff, Nat.reduceMul, Int.reduceNeg, Int.reduceLT, Int.reduceAdd, Int.reduceSub, hcl]
        refine hK9 _ ?_
        refine vc_ret ?_
        refine ⟨_, by first | rfl | (simp only [go_sem, resQ, List.mapM_cons, List.mapM_nil, ↓reduceIte, Nat.reduceEqDiff, Nat.reduceAdd, Nat.reduceLeDiff, reduceCtorEq]; rfl), [], [], .nil, by simp, by simp, fun hi_ h1_ => ⟨?_, rfl, rfl⟩, by simp⟩
        show V.t (T.bool _) = V.t (T.bool _)
        simp only [formOk, hc1, hc2, hb5_3, if_true, if_false]; try simp
    · (try simp only [go_sem] at hc2)
      refine vc_seq fun K12 hK12 => ?_
      refine vc_reg ?_
      try simp (disch := omega) only [go_sem, ↓reduceIte, Nat.reduceEqDiff, reduceCtorEq, Nat.reduceAdd, Nat.reduceLeDiff, Nat.reduceMul, Int.reduceNeg, Int.reduceLT, Int.reduceAdd, Int.reduceSub, hcl]
      refine hK12 _ ?_
      refine vc_cond (t := _) rfl (fun hc3 => ?_) (fun hc3 => ?_)
      · (try simp only [go_sem] at hc3)
        refine vc_seq fun K13 hK13 => ?_
        refine vc_reg ?_
        refine vcX_cut 4 fun K14 hK14 => ?_
        try simp (disch := omega) only [go_sem, ↓reduceIte, Nat.reduceEqDiff, reduceCtorEq, Nat.reduceAdd, Nat.reduceLeDiff, Nat.reduceMul, Int.reduceNeg, Int.reduceLT, Int.reduceAdd, Int.reduceSub, hcl]
        refine vcX_call _ _ (impl_IsName nm hn) rfl rfl (by first | rfl | simp [V.pures, V.pure, V.pures_t]) ?_
        rintro r7_2 h7_2 hh7_2 rfl -
        try simp (disch := omega) only [go_sem, ↓reduceIte, Nat.reduceEqDiff, reduceCtorEq, Nat.reduceAdd, Nat.reduceLeDiff, Nat.reduceMul, Int.reduceNeg, Int.reduceLT, Int.reduceAdd, Int.reduceSub, hcl]
        refine hK14 _ ?_
        refine vcX_bool (fun hb7_3 => ?_) (fun hb7_3 => ?_)
        · (try simp only [go_sem] at hb7_3)
          try simp (disch := omega) only [go_sem, ↓reduceIte, Nat.reduceEqDiff, reduceCtorEq, Nat.reduceAdd, Nat.reduceLeDiff, Nat.reduceMul, Int.reduceNeg, Int.reduceLT, Int.reduceAdd, Int.reduceSub, hcl]
          refine hK13 _ ?_
          refine vc_ret ?_
          refine ⟨_, by first | rfl | (simp only [go_sem, resQ, List.mapM_cons, List.mapM_nil, ↓reduceIte, Nat.reduceEqDiff, Nat.reduceAdd, Nat.reduceLeDiff, reduceCtorEq]; rfl), [], [], .nil, by simp, by simp, fun hi_ h1_ => ⟨?_, rfl, rfl⟩, by simp⟩
          show V.t (T.bool _) = V.t (T.bool _)
          simp only [formOk, hc1, hc2, hc3, hb7_3, if_true, if_false]; try simp
        · (try simp only [go_sem] at hb7_3)
          try simp (disch := omega) only [go_sem, ↓reduceIte, Nat.reduceEqDiff, reduceCtorEq, Nat.reduceAdd, Nat.reduceLeDiff, Nat.reduceMul, Int.reduceNeg, Int.reduceLT, Int.reduceAdd, Int.reduceSub, hcl]
          refine hK13 _ ?_
          refine vc_ret ?_
          refine ⟨_, by first | rfl | (simp only [go_sem, resQ, List.mapM_cons, List.mapM_nil, ↓reduceIte, Nat.reduceEqDiff, Nat.reduceAdd, Nat.reduceLeDiff, reduceCtorEq]; rfl), [], [], .nil, by simp, by simp, fun hi_ h1_ => ⟨?_, rfl, rfl⟩, by simp⟩
          show V.t (T.bool _) = V.t (T.bool _)
          simp only [formOk, hc1, hc2, hc3, hb7_3, if_true, if_false]; try simp
      · (try simp only [go_sem] at hc3)
        refine vc_seq fun K16 hK16 => ?_
        refine vc_reg ?_
        try simp (disch := omega) only [go_sem, ↓reduceIte, Nat.reduceEqDiff, reduceCtorEq, Nat.reduceAdd, Nat.reduceLeDiff, Nat.reduceMul, Int.reduceNeg, Int.reduceLT, Int.reduceAdd, Int.reduceSub, hcl]
        refine hK16 _ ?_
        refine vc_cond (t := _) rfl (fun hc4 => ?_) (fun hc4 => ?_)
        · (try simp only [go_sem] at hc4)
          refine vc_seq fun K17 hK17 => ?_
          refine vc_reg ?_
          refine vcX_cut 4 fun K18 hK18 => ?_
          try simp (disch := omega) only [go_sem, ↓reduceIte, Nat.reduceEqDiff, reduceCtorEq, Nat.reduceAdd, Nat.reduceLeDiff, Nat.reduceMul, Int.reduceNeg, Int.reduceLT, Int.reduceAdd, Int.reduceSub, hcl]
          refine hK18 _ ?_
          refine vcX_bool (fun hb9_3 => ?_) (fun hb9_3 => ?_)
          · (try simp only [go_sem] at hb9_3)
            try simp (disch := omega) only [go_sem, ↓reduceIte, Nat.reduceEqDiff, reduceCtorEq, Nat.reduceAdd, Nat.reduceLeDiff, Nat.reduceMul, Int.reduceNeg, Int.reduceLT, Int.reduceAdd, Int.reduceSub, hcl]
            refine hK17 _ ?_
            refine vc_ret ?_
            refine ⟨_, by first | rfl | (simp only [go_sem, resQ, List.mapM_cons, List.mapM_nil, ↓reduceIte, Nat.reduceEqDiff, Nat.reduceAdd, Nat.reduceLeDiff, reduceCtorEq]; rfl), [], [], .nil, by simp, by simp, fun hi_ h1_ => ⟨?_, rfl, rfl⟩, by simp⟩
            show V.t (T.bool _) = V.t (T.bool _)
            simp only [formOk, hc1, hc2, hc3, hc4, hb9_3, if_true, if_false]; try simp
          · (try simp only [go_sem] at hb9_3)
            try simp (disch := omega) only [go_sem, ↓reduceIte, Nat.reduceEqDiff, reduceCtorEq, Nat.reduceAdd, Nat.reduceLeDiff, Nat.reduceMul, Int.reduceNeg, Int.reduceLT, Int.reduceAdd, Int.reduceSub, hcl]
            refine hK17 _ ?_
            refine vc_ret ?_
            refine ⟨_, by first | rfl | (simp only [go_sem, resQ, List.mapM_cons, List.mapM_nil, ↓reduceIte, Nat.reduceEqDiff, Nat.reduceAdd, Nat.reduceLeDiff, reduceCtorEq]; rfl), [], [], .nil, by simp, by simp, fun hi_ h1_ => ⟨?_, rfl, rfl⟩, by simp⟩
            show V.t (T.bool _) = V.t (T.bool _)
            simp only [formOk, hc1, hc2, hc3, hc4, hb9_3, if_true, if_false]; try simp
        · (try simp only [go_sem] at hc4)
          refine vc_skip ?_
          refine hK2 _ ?_
          refine vc_seq fun K20 hK20 => ?_
          refine vc_reg ?_
          try simp (disch := omega) only [go_sem, ↓reduceIte, Nat.reduceEqDiff, reduceCtorEq, Nat.reduceAdd, Nat.reduceLeDiff, Nat.reduceMul, Int.reduceNeg, Int.reduceLT, Int.reduceAdd, Int.reduceSub, hcl]
          refine hK20 _ ?_
          refine vc_ret ?_
          refine ⟨_, by first | rfl | (simp only [go_sem, resQ, List.mapM_cons, List.mapM_nil, ↓reduceIte, Nat.reduceEqDiff, Nat.reduceAdd, Nat.reduceLeDiff, reduceCtorEq]; rfl), [], [], .nil, by simp, by simp, fun hi_ h1_ => ⟨?_, rfl, rfl⟩, by simp⟩
          show V.t (T.bool _) = V.t (T.bool _)
          simp only [formOk, hc1, hc2, hc3, hc4, if_false]; try simp

/-- spec.l3All -/
theorem spec_l3All (e : E) (c : List T) (hc : e.rep c) (hw : e.wt ≤ 1048576) : FCtr Tryz.prog 81 [.agg (c.map .t)] (fun r => r = .t (.bool e.af)) := by
  induction e using E.ind generalizing c
  rename_i k nm us ih
  obtain ⟨g, cs, rfl, ha⟩ := E.rep_mk hc
  have hcl := E.repL_len ha
  rw [E.wt] at hw
  have hwl := E.wtL_len us
  rw [E.af]
  refine Ctr.of_vc (rs := [.tmp 2]) (fn := Tryz.f81) mixed Tryz.func81 rfl rfl (by kernel_rfl) (by kernel_rfl) (by simp [Tryz.ntmps81]) (fun h0 => ?_)
  refine vc_seq fun K1 hK1 => ?_
  refine vc_reg ?_
  try simp (disch := omega) only [go_sem, ↓reduceIte, Nat.reduceEqDiff, reduceCtorEq, Nat.reduceAdd, Nat.reduceLeDiff, Nat.reduceMul, Int.reduceNeg, Int.reduceLT, Int.reduceAdd, Int.reduceSub, hcl]
  intro g0_0 hg0_0
  refine hK1 _ ?_
  refine vc_seq fun K2 hK2 => ?_
  refine vc_seq fun K3 hK3 => ?_
  refine vc_reg ?_
  try simp (disch := omega) only [go_sem, ↓reduceIte, Nat.reduceEqDiff, reduceCtorEq, Nat.reduceAdd, Nat.reduceLeDiff, Nat.reduceMul, Int.reduceNeg, Int.reduceLT, Int.reduceAdd, Int.reduceSub, hcl]
  refine hK3 _ ?_
  refine vc_block ?_
  refine vc_loop (fun m s => ∃ (n : Nat), (m = us.length - n) ∧ (s.σ = [.row g0_0 0 3 3 [[V.t (.int .i64 k), V.t (.str nm), V.t (.sl g cs)]]]) ∧ (s.env 1 = .ptr 0 0 0 0) ∧ (s.env 3 = .t (.int .i64 n)) ∧ (n ≤ us.length) ∧ (E.afL us = E.afL (us.drop n))) (us.length - 0) ⟨0, rfl, (by first | rfl | simp), (by first | rfl | assumption), (by first | rfl | assumption), (by first | rfl | omega | simp), (by first | rfl | omega | simp)⟩ ?_
  rintro m ⟨e, σ, h⟩ ⟨n, hm, hσ, e1, e3, hn, hq⟩ K4 hK4
  simp only at hσ e1 e3
  subst hσ
  refine vc_seq fun K5 hK5 => ?_
  refine vc_seq fun K6 hK6 => ?_
  refine vc_reg ?_
  try simp (disch := omega) only [go_sem, ↓reduceIte, Nat.reduceEqDiff, reduceCtorEq, Nat.reduceAdd, Nat.reduceLeDiff, Nat.reduceMul, Int.reduceNeg, Int.reduceLT, Int.reduceAdd, Int.reduceSub, e1, e3, hcl]
  refine hK6 _ ?_
  refine vc_cond (t := _) rfl (fun hc1 => ?_) (fun hc1 => ?_)
  · (try simp only [go_sem] at hc1)
    refine vc_skip ?_
    refine hK5 _ ?_
    refine vc_seq fun K7 hK7 => ?_
    refine vc_block ?_
    refine vc_seq fun K8 hK8 => ?_
    obtain ⟨c, hc, hrc⟩ := E.repL_get ha (n := n) (by omega)
    obtain ⟨gc, cc, rfl, hcc⟩ := E.rep_cells hrc
    refine vc_reg ?_
    try simp (disch := omega) only [go_sem, ↓reduceIte, Nat.reduceEqDiff, reduceCtorEq, Nat.reduceAdd, Nat.reduceLeDiff, Nat.reduceMul, Int.reduceNeg, Int.reduceLT, Int.reduceAdd, Int.reduceSub, e1, e3, hcl, hc]
    refine vcX_call _ _ (ih _ (List.getElem_mem (show n < us.length by omega)) _ hrc (by have := E.wtL_mem (List.getElem_mem (show n < us.length by omega)); omega)) rfl rfl (by first | rfl | simp [V.pures, V.pure, V.pures_t]) ?_
    rintro r4_5 h4_5 hh4_5 rfl -
    try simp (disch := omega) only [go_sem, ↓reduceIte, Nat.reduceEqDiff, reduceCtorEq, Nat.reduceAdd, Nat.reduceLeDiff, Nat.reduceMul, Int.reduceNeg, Int.reduceLT, Int.reduceAdd, Int.reduceSub, e1, e3, hcl, hc]
    refine hK8 _ ?_
    refine vc_cond (t := _) rfl (fun hc2 => ?_) (fun hc2 => ?_)
    · (try simp only [go_sem] at hc2)
      refine vc_seq fun K9 hK9 => ?_
      refine vc_reg ?_
      try simp (disch := omega) only [go_sem, ↓reduceIte, Nat.reduceEqDiff, reduceCtorEq, Nat.reduceAdd, Nat.reduceLeDiff, Nat.reduceMul, Int.reduceNeg, Int.reduceLT, Int.reduceAdd, Int.reduceSub, e1, e3, hcl]
      refine hK9 _ ?_
      refine vc_ret ?_
      refine ⟨_, by first | rfl | (simp only [go_sem, resQ, List.mapM_cons, List.mapM_nil, ↓reduceIte, Nat.reduceEqDiff, Nat.reduceAdd, Nat.reduceLeDiff, reduceCtorEq]; rfl), [], [], .nil, by simp, by simp, fun hi_ h1_ => ⟨?_, rfl, rfl⟩, by simp⟩
      rw [hq, E.afL_drop (n := n) (by omega), hc2, Bool.false_and, Bool.and_false]; rfl
    · (try simp only [go_sem] at hc2)
      refine vc_skip ?_
      refine hK7 _ ?_
      refine vc_reg ?_
      try simp (disch := omega) only [go_sem, ↓reduceIte, Nat.reduceEqDiff, reduceCtorEq, Nat.reduceAdd, Nat.reduceLeDiff, Nat.reduceMul, Int.reduceNeg, Int.reduceLT, Int.reduceAdd, Int.reduceSub, e1, e3, hcl]
      refine hK4 _ _ ?_ ⟨n + 1, rfl, (by first | rfl | simp), (by first | rfl | assumption), (by first | rfl | assumption), ?_, ?_⟩
      · omega
      · first | omega | assumption | rfl | simp_all
      · rw [hq, E.afL_drop (n := n) (by omega), hc2, Bool.true_and]
  · (try simp only [go_sem] at hc1)
    refine vc_exit ?_
    refine hK2 _ ?_
    refine vc_seq fun K10 hK10 => ?_
    refine vc_reg ?_
    try simp (disch := omega) only [go_sem, ↓reduceIte, Nat.reduceEqDiff, reduceCtorEq, Nat.reduceAdd, Nat.reduceLeDiff, Nat.reduceMul, Int.reduceNeg, Int.reduceLT, Int.reduceAdd, Int.reduceSub, e1, e3, hcl]
    refine vcX_call _ _ (spec_l3Form (.mk k nm us) _ (E.rep_of ha) (by simp only [E.name]; omega) (by simp only [E.args]; omega)) rfl rfl (by first | rfl | simp [V.pures, V.pure, V.pures_t]) ?_
    rintro r6_1 h6_1 hh6_1 rfl -
    try simp (disch := omega) only [go_sem, ↓reduceIte, Nat.reduceEqDiff, reduceCtorEq, Nat.reduceAdd, Nat.reduceLeDiff, Nat.reduceMul, Int.reduceNeg, Int.reduceLT, Int.reduceAdd, Int.reduceSub, e1, e3, hcl]
    refine hK10 _ ?_
    refine vc_ret ?_
    refine ⟨_, by first | rfl | (simp only [go_sem, resQ, List.mapM_cons, List.mapM_nil, ↓reduceIte, Nat.reduceEqDiff, Nat.reduceAdd, Nat.reduceLeDiff, reduceCtorEq]; rfl), [], [], .nil, by simp, by simp, fun hi_ h1_ => ⟨?_, rfl, rfl⟩, by simp⟩
    rw [hq, List.drop_of_length_le (by omega), E.afL, Bool.and_true]; rfl

/-- spec.l3Left -/
theorem spec_l3Left (e : E) (c : List T) (L : Int) (hc : e.rep c) (hL : -1048576 ≤ L ∧ L ≤ 1048576) (hw : e.wt ≤ 1048576) : FCtr Tryz.prog 79 [.agg (c.map .t), .t (.int .i64 L)] (fun r => ∃ m : Int, r = .t (.int .i64 m) ∧ ((0 ≤ m ∧ m = L - e.sz) ∨ (m < 0 ∧ L < e.sz)) ∧ -1048577 ≤ m) := by
  induction e using E.ind generalizing c L
  rename_i k nm us ih
  obtain ⟨g, cs, rfl, ha⟩ := E.rep_mk hc
  have hcl := E.repL_len ha
  rw [E.wt] at hw
  have hwl := E.wtL_len us
  rw [E.sz]
  have hsl := E.szL_wtL us
  refine Ctr.of_vc (rs := [.tmp 4]) (fn := Tryz.f79) mixed Tryz.func79 rfl rfl (by kernel_rfl) (by kernel_rfl) (by simp [Tryz.ntmps79]) (fun h0 => ?_)
  refine vc_seq fun K1 hK1 => ?_
  refine vc_reg ?_
  try simp (disch := omega) only [go_sem, ↓reduceIte, Nat.reduceEqDiff, reduceCtorEq, Nat.reduceAdd, Nat.reduceLeDiff, Nat.reduceMul, Int.reduceNeg, Int.reduceLT, Int.reduceAdd, Int.reduceSub, hcl]
  intro g0_0 hg0_0
  refine hK1 _ ?_
  refine vc_seq fun K2 hK2 => ?_
  refine vc_reg ?_
  try simp (disch := omega) only [go_sem, ↓reduceIte, Nat.reduceEqDiff, reduceCtorEq, Nat.reduceAdd, Nat.reduceLeDiff, Nat.reduceMul, Int.reduceNeg, Int.reduceLT, Int.reduceAdd, Int.reduceSub, hcl]
  refine hK2 _ ?_
  refine vc_seq fun K3 hK3 => ?_
  refine vc_seq fun K4 hK4 => ?_
  refine vc_reg ?_
  try simp (disch := omega) only [go_sem, ↓reduceIte, Nat.reduceEqDiff, reduceCtorEq, Nat.reduceAdd, Nat.reduceLeDiff, Nat.reduceMul, Int.reduceNeg, Int.reduceLT, Int.reduceAdd, Int.reduceSub, hcl]
  refine hK4 _ ?_
  refine vc_block ?_
  refine vc_loop (fun m s => ∃ (n : Nat) (q : Int), (m = us.length - n) ∧ (s.σ = [.row g0_0 0 3 3 [[V.t (.int .i64 k), V.t (.str nm), V.t (.sl g cs)]]]) ∧ (s.env 1 = .t (.int .i64 q)) ∧ (s.env 2 = .ptr 0 0 0 0) ∧ (s.env 5 = .t (.int .i64 n)) ∧ (n ≤ us.length) ∧ ((0 ≤ q ∧ q - E.szL (us.drop n) = L - 1 - E.szL us) ∨ (q < 0 ∧ L < 1 + E.szL us)) ∧ (-1048577 ≤ q ∧ q ≤ 1048576)) (us.length - 0) ⟨0, L - 1, rfl, (by first | rfl | simp), (by first | rfl | assumption), (by first | rfl | assumption), (by first | rfl | assumption), (by first | rfl | omega | simp), (by rw [show us.drop 0 = us from rfl]; omega), (by omega)⟩ ?_
  rintro m ⟨e, σ, h⟩ ⟨n, q, hm, hσ, e1, e2, e5, hn, hq, hqb⟩ K5 hK5
  simp only at hσ e1 e2 e5
  subst hσ
  refine vc_seq fun K6 hK6 => ?_
  refine vc_seq fun K7 hK7 => ?_
  refine vc_reg ?_
  refine vcX_cut 6 fun K8 hK8 => ?_
  try simp (disch := omega) only [go_sem, ↓reduceIte, Nat.reduceEqDiff, reduceCtorEq, Nat.reduceAdd, Nat.reduceLeDiff, Nat.reduceMul, Int.reduceNeg, Int.reduceLT, Int.reduceAdd, Int.reduceSub, e1, e2, e5, hcl]
  refine hK8 _ ?_
  refine vcX_bool (fun hb3_5 => ?_) (fun hb3_5 => ?_)
  · (try simp only [go_sem] at hb3_5)
    try simp (disch := omega) only [go_sem, ↓reduceIte, Nat.reduceEqDiff, reduceCtorEq, Nat.reduceAdd, Nat.reduceLeDiff, Nat.reduceMul, Int.reduceNeg, Int.reduceLT, Int.reduceAdd, Int.reduceSub, e1, e2, e5, hcl]
    refine hK7 _ ?_
    refine vc_cond (t := _) rfl (fun hc1 => ?_) (fun hc1 => ?_)
    · (try simp only [go_sem] at hc1)
      refine vc_skip ?_
      refine hK6 _ ?_
      refine vc_seq fun K10 hK10 => ?_
      refine vc_block ?_
      obtain ⟨c, hc, hrc⟩ := E.repL_get ha (n := n) (by omega)
      obtain ⟨gc, cc, rfl, hcc⟩ := E.rep_cells hrc
      have hd := E.szL_drop (l := us) (n := n) (by omega)
      refine vc_reg ?_
      try simp (disch := omega) only [go_sem, ↓reduceIte, Nat.reduceEqDiff, reduceCtorEq, Nat.reduceAdd, Nat.reduceLeDiff, Nat.reduceMul, Int.reduceNeg, Int.reduceLT, Int.reduceAdd, Int.reduceSub, e1, e2, e5, hcl, hc]
      refine vcX_call _ _ (ih _ (List.getElem_mem (show n < us.length by omega)) _ q hrc (by omega) (by have := E.wtL_mem (List.getElem_mem (show n < us.length by omega)); omega)) rfl rfl (by first | rfl | simp [V.pures, V.pure, V.pures_t]) ?_
      rintro r5_6 h5_6 hh5_6 ⟨m', rfl, hm', hmb⟩ -
      try simp (disch := omega) only [go_sem, ↓reduceIte, Nat.reduceEqDiff, reduceCtorEq, Nat.reduceAdd, Nat.reduceLeDiff, Nat.reduceMul, Int.reduceNeg, Int.reduceLT, Int.reduceAdd, Int.reduceSub, e1, e2, e5, hcl, hc]
      refine hK10 _ ?_
      refine vc_reg ?_
      try simp (disch := omega) only [go_sem, ↓reduceIte, Nat.reduceEqDiff, reduceCtorEq, Nat.reduceAdd, Nat.reduceLeDiff, Nat.reduceMul, Int.reduceNeg, Int.reduceLT, Int.reduceAdd, Int.reduceSub, e1, e2, e5, hcl]
      refine hK5 _ _ ?_ ⟨n + 1, m', rfl, (by first | rfl | simp), (by first | rfl | assumption), (by first | rfl | assumption), (by first | rfl | assumption), ?_, ?_, ?_⟩
      · omega
      · first | omega | assumption | rfl | simp_all
      · omega
      · omega
    · (try simp only [go_sem] at hc1)
      refine vc_exit ?_
      refine hK3 _ ?_
      refine vc_seq fun K11 hK11 => ?_
      refine vc_reg ?_
      try simp (disch := omega) only [go_sem, ↓reduceIte, Nat.reduceEqDiff, reduceCtorEq, Nat.reduceAdd, Nat.reduceLeDiff, Nat.reduceMul, Int.reduceNeg, Int.reduceLT, Int.reduceAdd, Int.reduceSub, e1, e2, e5, hcl]
      refine hK11 _ ?_
      refine vc_ret ?_
      refine ⟨_, by first | rfl | (simp only [go_sem, resQ, List.mapM_cons, List.mapM_nil, ↓reduceIte, Nat.reduceEqDiff, Nat.reduceAdd, Nat.reduceLeDiff, reduceCtorEq]; rfl), [], [], .nil, by simp, by simp, fun hi_ h1_ => ⟨?_, rfl, rfl⟩, by simp⟩
      refine ⟨_, rfl, ?_, by omega⟩
      omega
  · (try simp only [go_sem] at hb3_5)
    try simp (disch := omega) only [go_sem, ↓reduceIte, Nat.reduceEqDiff, reduceCtorEq, Nat.reduceAdd, Nat.reduceLeDiff, Nat.reduceMul, Int.reduceNeg, Int.reduceLT, Int.reduceAdd, Int.reduceSub, e1, e2, e5, hcl]
    refine hK7 _ ?_
    refine vc_cond (t := _) rfl (fun hc2 => ?_) (fun hc2 => ?_)
    · exact absurd hc2 (by simp)
    · (try simp only [go_sem] at hc2)
      refine vc_exit ?_
      refine hK3 _ ?_
      refine vc_seq fun K12 hK12 => ?_
      refine vc_reg ?_
      try simp (disch := omega) only [go_sem, ↓reduceIte, Nat.reduceEqDiff, reduceCtorEq, Nat.reduceAdd, Nat.reduceLeDiff, Nat.reduceMul, Int.reduceNeg, Int.reduceLT, Int.reduceAdd, Int.reduceSub, e1, e2, e5, hcl]
      refine hK12 _ ?_
      refine vc_ret ?_
      refine ⟨_, by first | rfl | (simp only [go_sem, resQ, List.mapM_cons, List.mapM_nil, ↓reduceIte, Nat.reduceEqDiff, Nat.reduceAdd, Nat.reduceLeDiff, reduceCtorEq]; rfl), [], [], .nil, by simp, by simp, fun hi_ h1_ => ⟨?_, rfl, rfl⟩, by simp⟩
      rw [List.drop_of_length_le (by omega), E.szL] at hq
      refine ⟨_, rfl, ?_, by omega⟩
      omega

/-- spec.IsValidExpr -/
theorem spec_IsValidExpr (e : E) (c : List T) (hc : e.rep c) (hw : e.wt ≤ 1048576) : FCtr Tryz.prog 44 [.agg (c.map .t)] (fun r => r = .t (.bool (decide ((e.sz : Int) ≤ 80) && (decide ((e.dp : Int) ≤ 24) && e.af)))) := by
  obtain ⟨g, cs, rfl, hcs⟩ := E.rep_cells hc
  have reach := reach47
  refine Ctr.of_vc (rs := [.tmp 2]) (fn := Tryz.f44) mixed Tryz.func44 rfl rfl (by kernel_rfl) (by kernel_rfl) (by simp [Tryz.ntmps44]) (fun h0 => ?_)
  refine vc_seq fun K1 hK1 => ?_
  refine vc_reg ?_
  try simp (disch := omega) only [go_sem, ↓reduceIte, Nat.reduceEqDiff, reduceCtorEq, Nat.reduceAdd, Nat.reduceLeDiff, Nat.reduceMul, Int.reduceNeg, Int.reduceLT, Int.reduceAdd, Int.reduceSub]
  intro g0_0 hg0_0
  refine hK1 _ ?_
  refine vc_seq fun K2 hK2 => ?_
  refine vc_reg ?_
  refine vcX_cut 4 fun K3 hK3 => ?_
  try simp (disch := omega) only [go_sem, ↓reduceIte, Nat.reduceEqDiff, reduceCtorEq, Nat.reduceAdd, Nat.reduceLeDiff, Nat.reduceMul, Int.reduceNeg, Int.reduceLT, Int.reduceAdd, Int.reduceSub]
  refine vcX_call _ _ (spec_l3Left e _ 80 hc (by omega) hw) rfl rfl (by first | rfl | simp [V.pures, V.pure, V.pures_t]) ?_
  rintro r1_1 h1_1 hh1_1 ⟨m, rfl, hm, hmb⟩ -
  try simp (disch := omega) only [go_sem, ↓reduceIte, Nat.reduceEqDiff, reduceCtorEq, Nat.reduceAdd, Nat.reduceLeDiff, Nat.reduceMul, Int.reduceNeg, Int.reduceLT, Int.reduceAdd, Int.reduceSub]
  refine hK3 _ ?_
  refine vcX_bool (fun hb1_3 => ?_) (fun hb1_3 => ?_)
  · (try simp only [go_sem] at hb1_3)
    refine vcX_cut 5 fun K5 hK5 => ?_
    try simp (disch := omega) only [go_sem, ↓reduceIte, Nat.reduceEqDiff, reduceCtorEq, Nat.reduceAdd, Nat.reduceLeDiff, Nat.reduceMul, Int.reduceNeg, Int.reduceLT, Int.reduceAdd, Int.reduceSub]
    refine vcX_call _ _ (spec_DepthOf e _ hc hw) rfl rfl (by first | rfl | simp [V.pures, V.pure, V.pures_t]) ?_
    rintro r1_5 h1_5 hh1_5 rfl -
    try simp (disch := omega) only [go_sem, ↓reduceIte, Nat.reduceEqDiff, reduceCtorEq, Nat.reduceAdd, Nat.reduceLeDiff, Nat.reduceMul, Int.reduceNeg, Int.reduceLT, Int.reduceAdd, Int.reduceSub]
    refine hK5 _ ?_
    refine vcX_bool (fun hb1_8 => ?_) (fun hb1_8 => ?_)
    · (try simp only [go_sem] at hb1_8)
      try simp (disch := omega) only [go_sem, ↓reduceIte, Nat.reduceEqDiff, reduceCtorEq, Nat.reduceAdd, Nat.reduceLeDiff, Nat.reduceMul, Int.reduceNeg, Int.reduceLT, Int.reduceAdd, Int.reduceSub]
      refine vcX_call _ _ (spec_l3All e _ hc hw) rfl rfl (by first | rfl | simp [V.pures, V.pure, V.pures_t]) ?_
      rintro r1_10 h1_10 hh1_10 rfl -
      try simp (disch := omega) only [go_sem, ↓reduceIte, Nat.reduceEqDiff, reduceCtorEq, Nat.reduceAdd, Nat.reduceLeDiff, Nat.reduceMul, Int.reduceNeg, Int.reduceLT, Int.reduceAdd, Int.reduceSub]
      refine hK2 _ ?_
      refine vc_ret ?_
      refine ⟨_, by first | rfl | (simp only [go_sem, resQ, List.mapM_cons, List.mapM_nil, ↓reduceIte, Nat.reduceEqDiff, Nat.reduceAdd, Nat.reduceLeDiff, reduceCtorEq]; rfl), [], [], .nil, by simp, by simp, fun hi_ h1_ => ⟨?_, rfl, rfl⟩, by simp⟩
      rw [decide_eq_true (by omega), decide_eq_true hb1_8]; rfl
    · (try simp only [go_sem] at hb1_8)
      try simp (disch := omega) only [go_sem, ↓reduceIte, Nat.reduceEqDiff, reduceCtorEq, Nat.reduceAdd, Nat.reduceLeDiff, Nat.reduceMul, Int.reduceNeg, Int.reduceLT, Int.reduceAdd, Int.reduceSub]
      refine hK2 _ ?_
      refine vc_ret ?_
      refine ⟨_, by first | rfl | (simp only [go_sem, resQ, List.mapM_cons, List.mapM_nil, ↓reduceIte, Nat.reduceEqDiff, Nat.reduceAdd, Nat.reduceLeDiff, reduceCtorEq]; rfl), [], [], .nil, by simp, by simp, fun hi_ h1_ => ⟨?_, rfl, rfl⟩, by simp⟩
      rw [decide_eq_false (show ¬ (e.dp : Int) ≤ 24 by omega), Bool.false_and, Bool.and_false]; rfl
  · (try simp only [go_sem] at hb1_3)
    try simp (disch := omega) only [go_sem, ↓reduceIte, Nat.reduceEqDiff, reduceCtorEq, Nat.reduceAdd, Nat.reduceLeDiff, Nat.reduceMul, Int.reduceNeg, Int.reduceLT, Int.reduceAdd, Int.reduceSub]
    refine hK2 _ ?_
    refine vc_ret ?_
    refine ⟨_, by first | rfl | (simp only [go_sem, resQ, List.mapM_cons, List.mapM_nil, ↓reduceIte, Nat.reduceEqDiff, Nat.reduceAdd, Nat.reduceLeDiff, reduceCtorEq]; rfl), [], [], .nil, by simp, by simp, fun hi_ h1_ => ⟨?_, rfl, rfl⟩, by simp⟩
    rw [decide_eq_false (show ¬ (e.sz : Int) ≤ 80 by omega)]; rfl

/-- impl.areForms -/
theorem impl_areForms (g0 : Nat) (e : E) (c : List T) (d L : Int) (hc : e.rep c) (hd : 1 ≤ d ∧ d ≤ 25) (hL : 0 ≤ L ∧ L ≤ 80) (hw : e.wt ≤ 1048576) : Ctr Tryz.prog 53 [.agg (c.map .t), .t (.int .i64 d), .ptr 0 0 0 0] [.row g0 0 1 1 [[.t (.int .i64 L)]]] (fun _ _ r σ' => ∃ (b : Bool) (m : Int), r = .t (.bool b) ∧ σ' = [.row g0 0 1 1 [[.t (.int .i64 m)]]] ∧ b = (decide ((e.sz : Int) ≤ L) && (decide (d + e.dp ≤ 25) && e.af)) ∧ (b = true → m = L - e.sz)) := by
  induction e using E.ind generalizing c d L
  rename_i k nm us ih
  obtain ⟨g, cs, rfl, ha⟩ := E.rep_mk hc
  have hcl := E.repL_len ha
  rw [E.wt] at hw
  have hwl := E.wtL_len us
  have hc0 := hc
  rw [E.sz, E.dp, E.af]
  have hsl := E.szL_wtL us
  refine Ctr.of_vc (rs := [.tmp 6]) (fn := Tryz.f53) mixed Tryz.func53 rfl rfl (by kernel_rfl) (by kernel_rfl) (by simp [Tryz.ntmps53]) (fun h0 => ?_)
  refine vc_seq fun K1 hK1 => ?_
  refine vc_reg ?_
  try simp (disch := omega) only [go_sem, ↓reduceIte, Nat.reduceEqDiff, reduceCtorEq, Nat.reduceAdd, Nat.reduceLeDiff, Nat.reduceMul, Int.reduceNeg, Int.reduceLT, Int.reduceAdd, Int.reduceSub, hcl]
  intro g0_0 hg0_0
  refine hK1 _ ?_
  refine vc_seq fun K2 hK2 => ?_
  refine vc_reg ?_
  try simp (disch := omega) only [go_sem, ↓reduceIte, Nat.reduceEqDiff, reduceCtorEq, Nat.reduceAdd, Nat.reduceLeDiff, Nat.reduceMul, Int.reduceNeg, Int.reduceLT, Int.reduceAdd, Int.reduceSub, hcl]
  refine hK2 _ ?_
  refine vc_seq fun K3 hK3 => ?_
  refine vc_seq fun K4 hK4 => ?_
  refine vc_reg ?_
  refine vcX_cut 5 fun K5 hK5 => ?_
  try simp (disch := omega) only [go_sem, ↓reduceIte, Nat.reduceEqDiff, reduceCtorEq, Nat.reduceAdd, Nat.reduceLeDiff, Nat.reduceMul, Int.reduceNeg, Int.reduceLT, Int.reduceAdd, Int.reduceSub, hcl]
  refine hK5 _ ?_
  refine vcX_bool (fun hb2_4 => ?_) (fun hb2_4 => ?_)
  · (try simp only [go_sem] at hb2_4)
    try simp (disch := omega) only [go_sem, ↓reduceIte, Nat.reduceEqDiff, reduceCtorEq, Nat.reduceAdd, Nat.reduceLeDiff, Nat.reduceMul, Int.reduceNeg, Int.reduceLT, Int.reduceAdd, Int.reduceSub, hcl]
    refine hK4 _ ?_
    refine vc_cond (t := _) rfl (fun hc1 => ?_) (fun hc1 => ?_)
    · (try simp only [go_sem] at hc1)
      refine vc_seq fun K7 hK7 => ?_
      refine vc_reg ?_
      try simp (disch := omega) only [go_sem, ↓reduceIte, Nat.reduceEqDiff, reduceCtorEq, Nat.reduceAdd, Nat.reduceLeDiff, Nat.reduceMul, Int.reduceNeg, Int.reduceLT, Int.reduceAdd, Int.reduceSub, hcl]
      refine hK7 _ ?_
      refine vc_ret ?_
      refine ⟨_, rfl, [0], [], by simp, by simp, by simp, fun hi_ h1_ => ⟨false, L - 1, rfl, rfl, ?_, ?_⟩, le_1 (y := ?_) ?_⟩
      · rw [decide_eq_false (by omega)]; rfl
      · simp
      · exact .t (.int .i64 (L - 1))
      · rfl
    · exact absurd hc1 (by simp)
  · (try simp only [go_sem] at hb2_4)
    refine vcX_cut 4 fun K8 hK8 => ?_
    try simp (disch := omega) only [go_sem, ↓reduceIte, Nat.reduceEqDiff, reduceCtorEq, Nat.reduceAdd, Nat.reduceLeDiff, Nat.reduceMul, Int.reduceNeg, Int.reduceLT, Int.reduceAdd, Int.reduceSub, hcl]
    refine hK8 _ ?_
    refine vcX_bool (fun hb2_8 => ?_) (fun hb2_8 => ?_)
    · (try simp only [go_sem] at hb2_8)
      try simp (disch := omega) only [go_sem, ↓reduceIte, Nat.reduceEqDiff, reduceCtorEq, Nat.reduceAdd, Nat.reduceLeDiff, Nat.reduceMul, Int.reduceNeg, Int.reduceLT, Int.reduceAdd, Int.reduceSub, hcl]
      refine hK4 _ ?_
      refine vc_cond (t := _) rfl (fun hc2 => ?_) (fun hc2 => ?_)
      · (try simp only [go_sem] at hc2)
        refine vc_seq fun K10 hK10 => ?_
        refine vc_reg ?_
        try simp (disch := omega) only [go_sem, ↓reduceIte, Nat.reduceEqDiff, reduceCtorEq, Nat.reduceAdd, Nat.reduceLeDiff, Nat.reduceMul, Int.reduceNeg, Int.reduceLT, Int.reduceAdd, Int.reduceSub, hcl]
        refine hK10 _ ?_
        refine vc_ret ?_
        refine ⟨_, rfl, [0], [], by simp, by simp, by simp, fun hi_ h1_ => ⟨false, L - 1, rfl, rfl, ?_, ?_⟩, le_1 (y := ?_) ?_⟩
        · rw [decide_eq_false (show ¬ d + ((1 + E.dpL us : Nat) : Int) ≤ 25 by omega), Bool.false_and, Bool.and_false]
        · simp
        · exact .t (.int .i64 (L - 1))
        · rfl
      · exact absurd hc2 (by simp)
    · (try simp only [go_sem] at hb2_8)
      try simp (disch := omega) only [go_sem, ↓reduceIte, Nat.reduceEqDiff, reduceCtorEq, Nat.reduceAdd, Nat.reduceLeDiff, Nat.reduceMul, Int.reduceNeg, Int.reduceLT, Int.reduceAdd, Int.reduceSub, hcl]
      refine vcX_call _ _ (impl_isForm (.mk k nm us) _ (E.rep_of ha) (by simp only [E.name]; omega) (by simp only [E.args]; omega)) rfl rfl (by first | rfl | simp [V.pures, V.pure, V.pures_t]) ?_
      rintro r2_10 h2_10 hh2_10 rfl -
      try simp (disch := omega) only [go_sem, ↓reduceIte, Nat.reduceEqDiff, reduceCtorEq, Nat.reduceAdd, Nat.reduceLeDiff, Nat.reduceMul, Int.reduceNeg, Int.reduceLT, Int.reduceAdd, Int.reduceSub, hcl]
      refine hK4 _ ?_
      refine vc_cond (t := _) rfl (fun hc3 => ?_) (fun hc3 => ?_)
      · (try simp only [go_sem] at hc3)
        refine vc_seq fun K11 hK11 => ?_
        refine vc_reg ?_
        try simp (disch := omega) only [go_sem, ↓reduceIte, Nat.reduceEqDiff, reduceCtorEq, Nat.reduceAdd, Nat.reduceLeDiff, Nat.reduceMul, Int.reduceNeg, Int.reduceLT, Int.reduceAdd, Int.reduceSub, hcl]
        refine hK11 _ ?_
        refine vc_ret ?_
        refine ⟨_, rfl, [0], [], by simp, by simp, by simp, fun hi_ h1_ => ⟨false, L - 1, rfl, rfl, ?_, ?_⟩, le_1 (y := ?_) ?_⟩
        · have hff : formOk k nm us.length = false := by first | assumption | simp_all
          rw [hff, Bool.false_and, Bool.and_false, Bool.and_false]
        · simp
        · exact .t (.int .i64 (L - 1))
        · rfl
      · (try simp only [go_sem] at hc3)
        refine vc_skip ?_
        refine hK3 _ ?_
        refine vc_seq fun K12 hK12 => ?_
        refine vc_seq fun K13 hK13 => ?_
        refine vc_reg ?_
        try simp (disch := omega) only [go_sem, ↓reduceIte, Nat.reduceEqDiff, reduceCtorEq, Nat.reduceAdd, Nat.reduceLeDiff, Nat.reduceMul, Int.reduceNeg, Int.reduceLT, Int.reduceAdd, Int.reduceSub, hcl]
        refine hK13 _ ?_
        refine vc_block ?_
        refine vc_loopG (fun m s => ∃ (n : Nat) (q : Int), (m = us.length - n) ∧ (s.σ = [.row g0 0 1 1 [[.t (.int .i64 q)]], .row g0_0 0 3 3 [[V.t (.int .i64 k), V.t (.str nm), V.t (.sl g cs)]]]) ∧ (s.env 1 = .t (.int .i64 d)) ∧ (s.env 2 = .ptr 0 0 0 0) ∧ (s.env 28 = .t (.sl g cs)) ∧ (s.env 29 = .t (.int .i64 us.length)) ∧ (s.env 30 = .t (.int .i64 n)) ∧ (n ≤ us.length) ∧ (0 ≤ q ∧ q ≤ L ∧ q - E.szL (us.drop n) = L - 1 - E.szL us) ∧ (d + 1 ≤ 25) ∧ (formOk k nm us.length = true) ∧ (E.dpL us ≤ 24 - d ↔ E.dpL (us.drop n) ≤ 24 - d) ∧ (E.afL us = E.afL (us.drop n))) (us.length - 0) ⟨0, L - 1, rfl, (by first | rfl | simp), (by first | rfl | assumption), (by first | rfl | assumption), (by first | rfl | assumption), (by first | rfl | assumption), (by first | rfl | assumption), (by first | rfl | omega | simp), (by rw [show us.drop 0 = us from rfl]; omega), (by omega), (by assumption), (by rfl), (by rfl)⟩ ?_
        rintro m ⟨e, σ, h⟩ ⟨n, q, hm, hσ, e1, e2, e28, e29, e30, hn, hq, hdp, hf, hdq, haf⟩ K14 hK14 hG14
        simp only at hσ e1 e2 e28 e29 e30
        subst hσ
        refine vc_seq fun K15 hK15 => ?_
        refine vc_reg ?_
        try simp (disch := omega) only [go_sem, ↓reduceIte, Nat.reduceEqDiff, reduceCtorEq, Nat.reduceAdd, Nat.reduceLeDiff, Nat.reduceMul, Int.reduceNeg, Int.reduceLT, Int.reduceAdd, Int.reduceSub, e1, e2, e28, e29, e30, hcl]
        refine hK15 _ ?_
        refine vc_seq fun K16 hK16 => ?_
        refine vc_cond (t := _) rfl (fun hc4 => ?_) (fun hc4 => ?_)
        · (try simp only [go_sem] at hc4)
          refine vc_skip ?_
          refine hK16 _ ?_
          refine vc_seq fun K17 hK17 => ?_
          refine vc_block ?_
          refine vc_seq fun K18 hK18 => ?_
          obtain ⟨c, hc, hrc⟩ := E.repL_get ha (n := n) (by omega)
          obtain ⟨gc, cc, rfl, hcc⟩ := E.rep_cells hrc
          have hds := E.szL_drop (l := us) (n := n) (by omega)
          have hdd := E.dpL_drop (l := us) (n := n) (by omega)
          have hda := E.afL_drop (l := us) (n := n) (by omega)
          refine vc_reg ?_
          try simp (disch := omega) only [go_sem, ↓reduceIte, Nat.reduceEqDiff, reduceCtorEq, Nat.reduceAdd, Nat.reduceLeDiff, Nat.reduceMul, Int.reduceNeg, Int.reduceLT, Int.reduceAdd, Int.reduceSub, e1, e2, e28, e29, e30, hcl, hc]
          intro g6_2 hg6_2
          refine hK18 _ ?_
          refine vc_seq fun K19 hK19 => ?_
          refine vc_reg ?_
          try simp (disch := omega) only [go_sem, ↓reduceIte, Nat.reduceEqDiff, reduceCtorEq, Nat.reduceAdd, Nat.reduceLeDiff, Nat.reduceMul, Int.reduceNeg, Int.reduceLT, Int.reduceAdd, Int.reduceSub, e1, e2, e28, e29, e30, hcl]
          refine vcX_callF [0] [] [.agg (List.map V.t [.int .i64 us[n].kind, .str us[n].name, .sl gc cc]), .t (.int .i64 (d + 1)), .ptr 0 0 0 0] [.row g0 0 1 1 [[.t (.int .i64 q)]]] _ (ih _ (List.getElem_mem (show n < us.length by omega)) _ (d + 1) q hrc (by omega) (by omega) (by have := E.wtL_mem (List.getElem_mem (show n < us.length by omega)); omega)) (by first | rfl | simp (disch := omega) only [go_sem, ↓reduceIte, Nat.reduceEqDiff, reduceCtorEq, Nat.reduceAdd, Nat.reduceLeDiff, Nat.reduceMul, Int.reduceNeg, Int.reduceLT, Int.reduceAdd, Int.reduceSub, e1, e2, e28, e29, e30, hcl]) (by simp) (by simp) (by simp) rfl (Subs.of_eq (by first | rfl | (simp (disch := omega) only [go_sem, ↓reduceIte, Nat.reduceEqDiff, reduceCtorEq, Nat.reduceAdd, Nat.reduceLeDiff, Nat.reduceMul, Int.reduceNeg, Int.reduceLT, Int.reduceAdd, Int.reduceSub, e1, e2, e28, e29, e30, hcl]) | (simp only [go_sem, V.loc, V.locs, idx]; done))) ?_
          rintro r7_4 σ7_4 h7_4 hh7_4 ⟨b, m', rfl, rfl, hb, hm'⟩
          refine ⟨by simp, ?_⟩
          try simp (disch := omega) only [go_sem, ↓reduceIte, Nat.reduceEqDiff, reduceCtorEq, Nat.reduceAdd, Nat.reduceLeDiff, Nat.reduceMul, Int.reduceNeg, Int.reduceLT, Int.reduceAdd, Int.reduceSub, e1, e2, e28, e29, e30, hcl]
          refine hK19 _ ?_
          refine vc_cond (t := _) rfl (fun hc5 => ?_) (fun hc5 => ?_)
          · (try simp only [go_sem] at hc5)
            refine vc_seq fun K20 hK20 => ?_
            refine vc_reg ?_
            try simp (disch := omega) only [go_sem, ↓reduceIte, Nat.reduceEqDiff, reduceCtorEq, Nat.reduceAdd, Nat.reduceLeDiff, Nat.reduceMul, Int.reduceNeg, Int.reduceLT, Int.reduceAdd, Int.reduceSub, e1, e2, e28, e29, e30, hcl]
            refine hK20 _ ?_
            refine vc_ret ?_
            refine ⟨_, rfl, [0], [], by simp, by simp, by simp, fun hi_ h1_ => ⟨false, m', rfl, rfl, ?_, ?_⟩, le_1 (y := ?_) ?_⟩
            · have hbf : b = false := by first | assumption | simp_all
              rw [hbf] at hb
              by_cases q1 : (us[n].sz : Int) ≤ q
              · by_cases q2 : d + 1 + (us[n].dp : Int) ≤ 25
                · rw [decide_eq_true q1, decide_eq_true q2, Bool.true_and, Bool.true_and] at hb
                  rw [haf, hda, ← hb, Bool.false_and, Bool.and_false, Bool.and_false, Bool.and_false]
                · rw [decide_eq_false (show ¬ d + ((1 + E.dpL us : Nat) : Int) ≤ 25 by omega), Bool.false_and, Bool.and_false]
              · rw [decide_eq_false (show ¬ ((1 + E.szL us : Nat) : Int) ≤ L by omega), Bool.false_and]
            · simp
            · exact .t (.int .i64 (m'))
            · rfl
          · (try simp only [go_sem] at hc5)
            refine vc_skip ?_
            refine hK17 _ ?_
            refine vc_reg ?_
            try simp (disch := omega) only [go_sem, ↓reduceIte, Nat.reduceEqDiff, reduceCtorEq, Nat.reduceAdd, Nat.reduceLeDiff, Nat.reduceMul, Int.reduceNeg, Int.reduceLT, Int.reduceAdd, Int.reduceSub, e1, e2, e28, e29, e30, hcl]
            have hbt : b = true := by first | assumption | simp_all
            have hm2 := hm' hbt
            have h3 := hb.symm
            rw [hbt] at h3
            simp only [Bool.and_eq_true, decide_eq_true_eq] at h3
            refine hG14 _ _ [0, 1] [] ?_ (by simp) (by simp) (by simp) ⟨n + 1, m', rfl, (by first | rfl | (simp (disch := omega) only [go_sem, ↓reduceIte, Nat.reduceEqDiff, reduceCtorEq, Nat.reduceAdd, Nat.reduceLeDiff, Nat.reduceMul, Int.reduceNeg, Int.reduceLT, Int.reduceAdd, Int.reduceSub, e1, e2, e28, e29, e30, hcl, gc_σ, locObs, Ob.loc, V.loc, V.locs, idx]; done) | (simp [gc_σ, locObs, Ob.loc, V.loc, Function.comp_def, List.take_of_length_le]; done)), (by first | rfl | (simp (disch := omega) only [go_sem, ↓reduceIte, Nat.reduceEqDiff, reduceCtorEq, Nat.reduceAdd, Nat.reduceLeDiff, Nat.reduceMul, Int.reduceNeg, Int.reduceLT, Int.reduceAdd, Int.reduceSub, e1, e2, e28, e29, e30, hcl, gc_env, V.loc, V.locs, idx]; done) | (simp (disch := omega) only [go_sem, ↓reduceIte, Nat.reduceEqDiff, reduceCtorEq, Nat.reduceAdd, Nat.reduceLeDiff, Nat.reduceMul, Int.reduceNeg, Int.reduceLT, Int.reduceAdd, Int.reduceSub, e1, e2, e28, e29, e30, hcl, gc_env, V.loc, V.locs, idx]; simp; done)), (by first | rfl | (simp (disch := omega) only [go_sem, ↓reduceIte, Nat.reduceEqDiff, reduceCtorEq, Nat.reduceAdd, Nat.reduceLeDiff, Nat.reduceMul, Int.reduceNeg, Int.reduceLT, Int.reduceAdd, Int.reduceSub, e1, e2, e28, e29, e30, hcl, gc_env, V.loc, V.locs, idx]; done) | (simp (disch := omega) only [go_sem, ↓reduceIte, Nat.reduceEqDiff, reduceCtorEq, Nat.reduceAdd, Nat.reduceLeDiff, Nat.reduceMul, Int.reduceNeg, Int.reduceLT, Int.reduceAdd, Int.reduceSub, e1, e2, e28, e29, e30, hcl, gc_env, V.loc, V.locs, idx]; simp; done)), (by first | rfl | (simp (disch := omega) only [go_sem, ↓reduceIte, Nat.reduceEqDiff, reduceCtorEq, Nat.reduceAdd, Nat.reduceLeDiff, Nat.reduceMul, Int.reduceNeg, Int.reduceLT, Int.reduceAdd, Int.reduceSub, e1, e2, e28, e29, e30, hcl, gc_env, V.loc, V.locs, idx]; done) | (simp (disch := omega) only [go_sem, ↓reduceIte, Nat.reduceEqDiff, reduceCtorEq, Nat.reduceAdd, Nat.reduceLeDiff, Nat.reduceMul, Int.reduceNeg, Int.reduceLT, Int.reduceAdd, Int.reduceSub, e1, e2, e28, e29, e30, hcl, gc_env, V.loc, V.locs, idx]; simp; done)), (by first | rfl | (simp (disch := omega) only [go_sem, ↓reduceIte, Nat.reduceEqDiff, reduceCtorEq, Nat.reduceAdd, Nat.reduceLeDiff, Nat.reduceMul, Int.reduceNeg, Int.reduceLT, Int.reduceAdd, Int.reduceSub, e1, e2, e28, e29, e30, hcl, gc_env, V.loc, V.locs, idx]; done) | (simp (disch := omega) only [go_sem, ↓reduceIte, Nat.reduceEqDiff, reduceCtorEq, Nat.reduceAdd, Nat.reduceLeDiff, Nat.reduceMul, Int.reduceNeg, Int.reduceLT, Int.reduceAdd, Int.reduceSub, e1, e2, e28, e29, e30, hcl, gc_env, V.loc, V.locs, idx]; simp; done)), (by first | rfl | (simp (disch := omega) only [go_sem, ↓reduceIte, Nat.reduceEqDiff, reduceCtorEq, Nat.reduceAdd, Nat.reduceLeDiff, Nat.reduceMul, Int.reduceNeg, Int.reduceLT, Int.reduceAdd, Int.reduceSub, e1, e2, e28, e29, e30, hcl, gc_env, V.loc, V.locs, idx]; done) | (simp (disch := omega) only [go_sem, ↓reduceIte, Nat.reduceEqDiff, reduceCtorEq, Nat.reduceAdd, Nat.reduceLeDiff, Nat.reduceMul, Int.reduceNeg, Int.reduceLT, Int.reduceAdd, Int.reduceSub, e1, e2, e28, e29, e30, hcl, gc_env, V.loc, V.locs, idx]; simp; done)), ?_, ?_, ?_, ?_, ?_, ?_⟩
            · omega
            · first | omega | assumption | rfl | simp_all
            · omega
            · assumption
            · assumption
            · omega
            · rw [haf, hda, h3.2.2, Bool.true_and]
        · (try simp only [go_sem] at hc4)
          refine vc_exit ?_
          refine hK12 _ ?_
          refine vc_seq fun K21 hK21 => ?_
          refine vc_reg ?_
          try simp (disch := omega) only [go_sem, ↓reduceIte, Nat.reduceEqDiff, reduceCtorEq, Nat.reduceAdd, Nat.reduceLeDiff, Nat.reduceMul, Int.reduceNeg, Int.reduceLT, Int.reduceAdd, Int.reduceSub, e1, e2, e28, e29, e30, hcl]
          refine hK21 _ ?_
          refine vc_ret ?_
          rw [List.drop_of_length_le (by omega), E.szL] at hq
          rw [List.drop_of_length_le (by omega), E.dpL] at hdq
          rw [List.drop_of_length_le (by omega), E.afL] at haf
          refine ⟨_, rfl, [0], [], by simp, by simp, by simp, fun hi_ h1_ => ⟨true, q, rfl, rfl, ?_, ?_⟩, le_1 (y := ?_) ?_⟩
          · rw [hf, haf, decide_eq_true (by omega), decide_eq_true (by omega)]; rfl
          · intro _; omega
          · exact .t (.int .i64 (q))
          · rfl
end Go.Proofs.YtldhhppfnhgcdaaGreat
