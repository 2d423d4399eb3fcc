/-
  Chapter 14,walks: the reference's Encode (printed by tools/gwe.py).
-/
import Derived.Test.YtoikbadfbneahaaGreatDoorQx
import Derived.Test.YtoikbadfbneahaaGreatDoorQg
set_option linter.unusedVariables false
set_option linter.unusedSimpArgs false
set_option linter.unusedSectionVars false
set_option maxRecDepth 100000
set_option maxHeartbeats 20000000
set_option linter.unusedVariables false
set_option linter.unusedSimpArgs false
namespace Go.Proofs.YtoikbadfbneahaaGreatDoor
open Go Go.Mw
-- @U: List.length_map,wx,nsC

theorem w_renc000 (n:Ns) (hg:gdN n) (cc:PCalls Tryz.prog nX84 [.agg [.str n.m,.sl 2 (n.fs.map nm_),.sl 2 (n.ls.map lc_)]] (.int .i64 0)) (h1:n.m = []) (h2:n.fs = []) (h3:n.ls = []):PCalls Tryz.prog nX68 [ns_ n] (.tup [.sl 1 ((bytesN n).map by_),.int .i64 0]):=by
  refine pfun_sound (ic:=FX68.body) mixed cX68 rfl rfl ?_
  have f10:(!(n.m == [])) = false:=by simp [h1]
  have f20:decide ((n.fs.length:Int) > 0) = false:=by simp [h2]
  have f30:decide ((n.ls.length:Int) > 0) = false:=by simp [h3]
  have a1:=encT_len hg.1
  have a2:=prt_len (b:=0) (x:=encT n.m) (by omega)
  have a3:=encN_len hg.2.1.2
  have a4:=prt_len (b:=1) (x:=encN n.fs) (by omega)
  have a5:=encLs_len hg.2.2.1 hg.2.2.2
  have a6:=prt_len (b:=2) (x:=encLs n.ls) (by omega)
  have hB:bytesN n = ([]:List UInt8):=by rw [bytesN_pt]; simp [pt1,pt2,pt3,h1,h2,h3]
  rw [hB]
  simp only [go_sem,List.length_map,wx,nsC,FX68]
  refine call_same (cc) (by simp [go_sem,List.length_map,wx,nsC]) ?_
  simp only [go_sem,List.length_map,wx,nsC,f10,f20,f30]
  refine call_same (x_d0) (by simp [go_sem,List.length_map,wx,nsC]) ?_
  simp only [go_sem,List.length_map,wx,nsC]
  exact pdone [] (by simp only [go_sem,List.length_map,wx,nsC]) (by first | rfl | simp [go_sem,slv_ids,List.length_map,wx,nsC])
theorem w_renc001 (n:Ns) (hg:gdN n) (cc:PCalls Tryz.prog nX84 [.agg [.str n.m,.sl 2 (n.fs.map nm_),.sl 2 (n.ls.map lc_)]] (.int .i64 0)) (h1:n.m = []) (h2:n.fs = []) (h3:n.ls ≠ []):PCalls Tryz.prog nX68 [ns_ n] (.tup [.sl 1 ((bytesN n).map by_),.int .i64 0]):=by
  refine pfun_sound (ic:=FX68.body) mixed cX68 rfl rfl ?_
  have f10:(!(n.m == [])) = false:=by simp [h1]
  have f20:decide ((n.fs.length:Int) > 0) = false:=by simp [h2]
  have f31:decide ((n.ls.length:Int) > 0) = true:=by have:=List.length_pos_iff.2 h3; simp; omega
  have a1:=encT_len hg.1
  have a2:=prt_len (b:=0) (x:=encT n.m) (by omega)
  have a3:=encN_len hg.2.1.2
  have a4:=prt_len (b:=1) (x:=encN n.fs) (by omega)
  have a5:=encLs_len hg.2.2.1 hg.2.2.2
  have a6:=prt_len (b:=2) (x:=encLs n.ls) (by omega)
  have hB:bytesN n = prt 2 (encLs n.ls):=by rw [bytesN_pt]; simp [pt1,pt2,pt3,h1,h2,h3]
  rw [hB]
  simp only [go_sem,List.length_map,wx,nsC,FX68]
  refine call_same (cc) (by simp [go_sem,List.length_map,wx,nsC]) ?_
  simp only [go_sem,List.length_map,wx,nsC,f10,f20,f31]
  obtain ⟨_,_,hl,hgl⟩:=hg
  have hu:=pU (n:=n.ls.length) (by omega)
  refine call_same (x_u0 n.ls.length (by omega)) (by simp [go_sem,List.length_map,wx,nsC]) ?_
  simp only [go_sem,List.length_map,wx,nsC,f10,f20,f31]
  refine loop_rule (fun i:Nat=>⟨[(7,.int .i64 i),(5,.mp 5 2 0 0),(6,.mp 6 2 0 0),(1,.mp 1 3 0 0)],[(6,⟨71,2,[[.sl 1 ((putU n.ls.length ++ encC (n.ls.take i)).map by_),.int .i64 0]],true⟩),(5,⟨71,2,[[.nl,.int .i64 0]],true⟩),(1,⟨25,3,[nsC n],true⟩)]⟩) (fun i=>i ≤ n.ls.length) (fun i=>n.ls.length - i) 0 (Nat.zero_le _) (Wk.of ?_ ?_) ?_
  · simp only [go_sem,List.length_map,wx,nsC]; try simp
  · simp only [go_sem,List.length_map,wx,nsC,List.take_zero,encC,List.append_nil]; try simp
  intro i hi
  have hlen:(putU n.ls.length ++ encC (n.ls.take i)).length < 400000:=by
    have:=encC_tlen hl hgl i
    simp only [List.length_append]
    omega
  by_cases h9:(i:Int) < (n.ls.length:Int)
  · have hi':i < n.ls.length:=by omega
    have e8:=wi (n:=(i:Int) + 1) (by omega) (by omega)
    obtain ⟨g1,g2⟩:=gdLc_at hgl hi'
    have hs:encC (n.ls.take (i + 1)) = encC (n.ls.take i) ++ (putU (nth n.ls i).f.toNat ++ encN (nth n.ls i).l):=encC_tk hi'
    obtain ⟨k,hk,hk2⟩:=gdI_nat g1
    rw [hk,Int.toNat_natCast] at hs
    have hu2:=pU hk2
    have hw:putU n.ls.length ++ encC (n.ls.take i) ++ putU k ++ encN (nth n.ls i).l = putU n.ls.length ++ encC (n.ls.take (i + 1)):=by rw [hs]; simp only [List.append_assoc]
    generalize putU n.ls.length ++ encC (n.ls.take i) = B at *
    have c2:=x_u (l:=B) k hk2 (by omega)
    have c3:=u_names (nth n.ls i).l g2 (b:=B ++ putU k) (by rw [List.length_append]; omega)
    simp only [go_sem,List.length_map,wx,nsC,decide_eq_true h9,hk]
    refine ⟨by omega,h9,?_⟩
    refine dcall_same c2 (by simp [go_sem,wx]) rfl ?_
    simp only [go_sem,List.length_map,wx,nsC]
    refine ⟨by omega,h9,?_⟩
    refine call_same (c3) (by simp [go_sem,List.length_map,wx,nsC]) ?_
    simp only [go_sem,List.length_map,wx,nsC]
    rw [hw]
    refine klp_n (i + 1) (show i + 1 ≤ n.ls.length by omega) (show n.ls.length - (i + 1) < n.ls.length - i by omega) (Wk.of ?_ ?_)
    · simp only [go_sem,List.length_map,wx,nsC,e8]; try simp
    · simp only [go_sem,List.length_map,wx,nsC]; try simp [go_sem]
  obtain rfl:i = n.ls.length:=by omega
  rw [List.take_length,show putU n.ls.length ++ encC n.ls = encLs n.ls from rfl]
  simp only [go_sem,List.length_map,wx,nsC,decide_eq_false h9]
  refine dcall_same (x_y0 2) (by simp [go_sem,wx]) rfl ?_
  simp only [go_sem,List.length_map,wx,nsC]
  have p2:=x_p (l:=([]:List UInt8)) (x:=encLs n.ls) 2 (by (try simp only [List.length_append]); (try simp only [List.length_nil]); omega) (by omega)
  rw [List.nil_append (prt 2 _)] at p2
  refine call_same (p2) (by simp [go_sem,List.length_map,wx,nsC]) ?_
  simp only [go_sem,List.length_map,wx,nsC,f10,f20,f31]
  refine call_same (x_d (prt 2 (encLs n.ls))) (by simp [go_sem,List.length_map,wx,nsC]) ?_
  simp only [go_sem,List.length_map,wx,nsC]
  exact pdone [] (by simp only [go_sem,List.length_map,wx,nsC]) (by first | rfl | simp [go_sem,slv_ids,List.length_map,wx,nsC])
theorem w_renc010 (n:Ns) (hg:gdN n) (cc:PCalls Tryz.prog nX84 [.agg [.str n.m,.sl 2 (n.fs.map nm_),.sl 2 (n.ls.map lc_)]] (.int .i64 0)) (h1:n.m = []) (h2:n.fs ≠ []) (h3:n.ls = []):PCalls Tryz.prog nX68 [ns_ n] (.tup [.sl 1 ((bytesN n).map by_),.int .i64 0]):=by
  refine pfun_sound (ic:=FX68.body) mixed cX68 rfl rfl ?_
  have f10:(!(n.m == [])) = false:=by simp [h1]
  have f21:decide ((n.fs.length:Int) > 0) = true:=by have:=List.length_pos_iff.2 h2; simp; omega
  have f30:decide ((n.ls.length:Int) > 0) = false:=by simp [h3]
  have a1:=encT_len hg.1
  have a2:=prt_len (b:=0) (x:=encT n.m) (by omega)
  have a3:=encN_len hg.2.1.2
  have a4:=prt_len (b:=1) (x:=encN n.fs) (by omega)
  have a5:=encLs_len hg.2.2.1 hg.2.2.2
  have a6:=prt_len (b:=2) (x:=encLs n.ls) (by omega)
  have hB:bytesN n = prt 1 (encN n.fs):=by rw [bytesN_pt]; simp [pt1,pt2,pt3,h1,h2,h3]
  rw [hB]
  simp only [go_sem,List.length_map,wx,nsC,FX68]
  refine call_same (cc) (by simp [go_sem,List.length_map,wx,nsC]) ?_
  simp only [go_sem,List.length_map,wx,nsC,f10,f21,f30]
  refine dcall_same (x_y0 1) (by simp [go_sem,wx]) rfl ?_
  simp only [go_sem,List.length_map,wx,nsC]
  refine call_same (u_names0 n.fs hg.2.1.2) (by simp [go_sem,List.length_map,wx,nsC]) ?_
  simp only [go_sem,List.length_map,wx,nsC]
  have p1:=x_p (l:=([]:List UInt8)) (x:=encN n.fs) 1 (by (try simp only [List.length_append]); (try simp only [List.length_nil]); omega) (by omega)
  rw [List.nil_append (prt 1 _)] at p1
  refine call_same (p1) (by simp [go_sem,List.length_map,wx,nsC]) ?_
  simp only [go_sem,List.length_map,wx,nsC,f10,f21,f30]
  refine call_same (x_d (prt 1 (encN n.fs))) (by simp [go_sem,List.length_map,wx,nsC]) ?_
  simp only [go_sem,List.length_map,wx,nsC]
  exact pdone [] (by simp only [go_sem,List.length_map,wx,nsC]) (by first | rfl | simp [go_sem,slv_ids,List.length_map,wx,nsC])
theorem w_renc011 (n:Ns) (hg:gdN n) (cc:PCalls Tryz.prog nX84 [.agg [.str n.m,.sl 2 (n.fs.map nm_),.sl 2 (n.ls.map lc_)]] (.int .i64 0)) (h1:n.m = []) (h2:n.fs ≠ []) (h3:n.ls ≠ []):PCalls Tryz.prog nX68 [ns_ n] (.tup [.sl 1 ((bytesN n).map by_),.int .i64 0]):=by
  refine pfun_sound (ic:=FX68.body) mixed cX68 rfl rfl ?_
  have f10:(!(n.m == [])) = false:=by simp [h1]
  have f21:decide ((n.fs.length:Int) > 0) = true:=by have:=List.length_pos_iff.2 h2; simp; omega
  have f31:decide ((n.ls.length:Int) > 0) = true:=by have:=List.length_pos_iff.2 h3; simp; omega
  have a1:=encT_len hg.1
  have a2:=prt_len (b:=0) (x:=encT n.m) (by omega)
  have a3:=encN_len hg.2.1.2
  have a4:=prt_len (b:=1) (x:=encN n.fs) (by omega)
  have a5:=encLs_len hg.2.2.1 hg.2.2.2
  have a6:=prt_len (b:=2) (x:=encLs n.ls) (by omega)
  have hB:bytesN n = prt 1 (encN n.fs) ++ prt 2 (encLs n.ls):=by rw [bytesN_pt]; simp [pt1,pt2,pt3,h1,h2,h3]
  rw [hB]
  simp only [go_sem,List.length_map,wx,nsC,FX68]
  refine call_same (cc) (by simp [go_sem,List.length_map,wx,nsC]) ?_
  simp only [go_sem,List.length_map,wx,nsC,f10,f21,f31]
  refine dcall_same (x_y0 1) (by simp [go_sem,wx]) rfl ?_
  simp only [go_sem,List.length_map,wx,nsC]
  refine call_same (u_names0 n.fs hg.2.1.2) (by simp [go_sem,List.length_map,wx,nsC]) ?_
  simp only [go_sem,List.length_map,wx,nsC]
  have p1:=x_p (l:=([]:List UInt8)) (x:=encN n.fs) 1 (by (try simp only [List.length_append]); (try simp only [List.length_nil]); omega) (by omega)
  rw [List.nil_append (prt 1 _)] at p1
  refine call_same (p1) (by simp [go_sem,List.length_map,wx,nsC]) ?_
  simp only [go_sem,List.length_map,wx,nsC,f10,f21,f31]
  obtain ⟨_,_,hl,hgl⟩:=hg
  have hu:=pU (n:=n.ls.length) (by omega)
  refine call_same (x_u0 n.ls.length (by omega)) (by simp [go_sem,List.length_map,wx,nsC]) ?_
  simp only [go_sem,List.length_map,wx,nsC,f10,f21,f31]
  refine loop_rule (fun i:Nat=>⟨[(7,.int .i64 i),(5,.mp 5 2 0 0),(6,.mp 6 2 0 0),(1,.mp 1 3 0 0)],[(6,⟨71,2,[[.sl 1 ((putU n.ls.length ++ encC (n.ls.take i)).map by_),.int .i64 0]],true⟩),(5,⟨71,2,[[.sl 1 ((prt 1 (encN n.fs)).map by_),.int .i64 0]],true⟩),(1,⟨25,3,[nsC n],true⟩)]⟩) (fun i=>i ≤ n.ls.length) (fun i=>n.ls.length - i) 0 (Nat.zero_le _) (Wk.of ?_ ?_) ?_
  · simp only [go_sem,List.length_map,wx,nsC]; try simp
  · simp only [go_sem,List.length_map,wx,nsC,List.take_zero,encC,List.append_nil]; try simp
  intro i hi
  have hlen:(putU n.ls.length ++ encC (n.ls.take i)).length < 400000:=by
    have:=encC_tlen hl hgl i
    simp only [List.length_append]
    omega
  by_cases h9:(i:Int) < (n.ls.length:Int)
  · have hi':i < n.ls.length:=by omega
    have e8:=wi (n:=(i:Int) + 1) (by omega) (by omega)
    obtain ⟨g1,g2⟩:=gdLc_at hgl hi'
    have hs:encC (n.ls.take (i + 1)) = encC (n.ls.take i) ++ (putU (nth n.ls i).f.toNat ++ encN (nth n.ls i).l):=encC_tk hi'
    obtain ⟨k,hk,hk2⟩:=gdI_nat g1
    rw [hk,Int.toNat_natCast] at hs
    have hu2:=pU hk2
    have hw:putU n.ls.length ++ encC (n.ls.take i) ++ putU k ++ encN (nth n.ls i).l = putU n.ls.length ++ encC (n.ls.take (i + 1)):=by rw [hs]; simp only [List.append_assoc]
    generalize putU n.ls.length ++ encC (n.ls.take i) = B at *
    have c2:=x_u (l:=B) k hk2 (by omega)
    have c3:=u_names (nth n.ls i).l g2 (b:=B ++ putU k) (by rw [List.length_append]; omega)
    simp only [go_sem,List.length_map,wx,nsC,decide_eq_true h9,hk]
    refine ⟨by omega,h9,?_⟩
    refine dcall_same c2 (by simp [go_sem,wx]) rfl ?_
    simp only [go_sem,List.length_map,wx,nsC]
    refine ⟨by omega,h9,?_⟩
    refine call_same (c3) (by simp [go_sem,List.length_map,wx,nsC]) ?_
    simp only [go_sem,List.length_map,wx,nsC]
    rw [hw]
    refine klp_n (i + 1) (show i + 1 ≤ n.ls.length by omega) (show n.ls.length - (i + 1) < n.ls.length - i by omega) (Wk.of ?_ ?_)
    · simp only [go_sem,List.length_map,wx,nsC,e8]; try simp
    · simp only [go_sem,List.length_map,wx,nsC]; try simp [go_sem]
  obtain rfl:i = n.ls.length:=by omega
  rw [List.take_length,show putU n.ls.length ++ encC n.ls = encLs n.ls from rfl]
  simp only [go_sem,List.length_map,wx,nsC,decide_eq_false h9]
  refine dcall_same (x_y (l:=prt 1 (encN n.fs)) 2 (by (try simp only [List.length_append]); (try simp only [List.length_nil]); omega)) (by simp [go_sem,wx]) rfl ?_
  simp only [go_sem,List.length_map,wx,nsC]
  have p2:=x_p (l:=prt 1 (encN n.fs)) (x:=encLs n.ls) 2 (by (try simp only [List.length_append]); (try simp only [List.length_nil]); omega) (by omega)
  refine call_same (p2) (by simp [go_sem,List.length_map,wx,nsC]) ?_
  simp only [go_sem,List.length_map,wx,nsC,f10,f21,f31]
  refine call_same (x_d (prt 1 (encN n.fs) ++ prt 2 (encLs n.ls))) (by simp [go_sem,List.length_map,wx,nsC]) ?_
  simp only [go_sem,List.length_map,wx,nsC]
  exact pdone [] (by simp only [go_sem,List.length_map,wx,nsC]) (by first | rfl | simp [go_sem,slv_ids,List.length_map,wx,nsC])
theorem w_renc100 (n:Ns) (hg:gdN n) (cc:PCalls Tryz.prog nX84 [.agg [.str n.m,.sl 2 (n.fs.map nm_),.sl 2 (n.ls.map lc_)]] (.int .i64 0)) (h1:n.m ≠ []) (h2:n.fs = []) (h3:n.ls = []):PCalls Tryz.prog nX68 [ns_ n] (.tup [.sl 1 ((bytesN n).map by_),.int .i64 0]):=by
  refine pfun_sound (ic:=FX68.body) mixed cX68 rfl rfl ?_
  have f11:(!(n.m == [])) = true:=by simp [h1]
  have f20:decide ((n.fs.length:Int) > 0) = false:=by simp [h2]
  have f30:decide ((n.ls.length:Int) > 0) = false:=by simp [h3]
  have a1:=encT_len hg.1
  have a2:=prt_len (b:=0) (x:=encT n.m) (by omega)
  have a3:=encN_len hg.2.1.2
  have a4:=prt_len (b:=1) (x:=encN n.fs) (by omega)
  have a5:=encLs_len hg.2.2.1 hg.2.2.2
  have a6:=prt_len (b:=2) (x:=encLs n.ls) (by omega)
  have hB:bytesN n = prt 0 (encT n.m):=by rw [bytesN_pt]; simp [pt1,pt2,pt3,h1,h2,h3]
  rw [hB]
  simp only [go_sem,List.length_map,wx,nsC,FX68]
  refine call_same (cc) (by simp [go_sem,List.length_map,wx,nsC]) ?_
  simp only [go_sem,List.length_map,wx,nsC,f11,f20,f30]
  refine dcall_same (x_y0 0) (by simp [go_sem,wx]) rfl ?_
  simp only [go_sem,List.length_map,wx,nsC]
  refine call_same (x_t0 hg.1) (by simp [go_sem,List.length_map,wx,nsC]) ?_
  simp only [go_sem,List.length_map,wx,nsC]
  have p0:=x_p (l:=([]:List UInt8)) (x:=encT n.m) 0 (by (try simp only [List.length_append]); (try simp only [List.length_nil]); omega) (by omega)
  rw [List.nil_append (prt 0 _)] at p0
  refine call_same (p0) (by simp [go_sem,List.length_map,wx,nsC]) ?_
  simp only [go_sem,List.length_map,wx,nsC,f11,f20,f30]
  refine call_same (x_d (prt 0 (encT n.m))) (by simp [go_sem,List.length_map,wx,nsC]) ?_
  simp only [go_sem,List.length_map,wx,nsC]
  exact pdone [] (by simp only [go_sem,List.length_map,wx,nsC]) (by first | rfl | simp [go_sem,slv_ids,List.length_map,wx,nsC])
theorem w_renc101 (n:Ns) (hg:gdN n) (cc:PCalls Tryz.prog nX84 [.agg [.str n.m,.sl 2 (n.fs.map nm_),.sl 2 (n.ls.map lc_)]] (.int .i64 0)) (h1:n.m ≠ []) (h2:n.fs = []) (h3:n.ls ≠ []):PCalls Tryz.prog nX68 [ns_ n] (.tup [.sl 1 ((bytesN n).map by_),.int .i64 0]):=by
  refine pfun_sound (ic:=FX68.body) mixed cX68 rfl rfl ?_
  have f11:(!(n.m == [])) = true:=by simp [h1]
  have f20:decide ((n.fs.length:Int) > 0) = false:=by simp [h2]
  have f31:decide ((n.ls.length:Int) > 0) = true:=by have:=List.length_pos_iff.2 h3; simp; omega
  have a1:=encT_len hg.1
  have a2:=prt_len (b:=0) (x:=encT n.m) (by omega)
  have a3:=encN_len hg.2.1.2
  have a4:=prt_len (b:=1) (x:=encN n.fs) (by omega)
  have a5:=encLs_len hg.2.2.1 hg.2.2.2
  have a6:=prt_len (b:=2) (x:=encLs n.ls) (by omega)
  have hB:bytesN n = prt 0 (encT n.m) ++ prt 2 (encLs n.ls):=by rw [bytesN_pt]; simp [pt1,pt2,pt3,h1,h2,h3]
  rw [hB]
  simp only [go_sem,List.length_map,wx,nsC,FX68]
  refine call_same (cc) (by simp [go_sem,List.length_map,wx,nsC]) ?_
  simp only [go_sem,List.length_map,wx,nsC,f11,f20,f31]
  refine dcall_same (x_y0 0) (by simp [go_sem,wx]) rfl ?_
  simp only [go_sem,List.length_map,wx,nsC]
  refine call_same (x_t0 hg.1) (by simp [go_sem,List.length_map,wx,nsC]) ?_
  simp only [go_sem,List.length_map,wx,nsC]
  have p0:=x_p (l:=([]:List UInt8)) (x:=encT n.m) 0 (by (try simp only [List.length_append]); (try simp only [List.length_nil]); omega) (by omega)
  rw [List.nil_append (prt 0 _)] at p0
  refine call_same (p0) (by simp [go_sem,List.length_map,wx,nsC]) ?_
  simp only [go_sem,List.length_map,wx,nsC,f11,f20,f31]
  obtain ⟨_,_,hl,hgl⟩:=hg
  have hu:=pU (n:=n.ls.length) (by omega)
  refine call_same (x_u0 n.ls.length (by omega)) (by simp [go_sem,List.length_map,wx,nsC]) ?_
  simp only [go_sem,List.length_map,wx,nsC,f11,f20,f31]
  refine loop_rule (fun i:Nat=>⟨[(7,.int .i64 i),(5,.mp 5 2 0 0),(6,.mp 6 2 0 0),(1,.mp 1 3 0 0)],[(6,⟨71,2,[[.sl 1 ((putU n.ls.length ++ encC (n.ls.take i)).map by_),.int .i64 0]],true⟩),(5,⟨71,2,[[.sl 1 ((prt 0 (encT n.m)).map by_),.int .i64 0]],true⟩),(1,⟨25,3,[nsC n],true⟩)]⟩) (fun i=>i ≤ n.ls.length) (fun i=>n.ls.length - i) 0 (Nat.zero_le _) (Wk.of ?_ ?_) ?_
  · simp only [go_sem,List.length_map,wx,nsC]; try simp
  · simp only [go_sem,List.length_map,wx,nsC,List.take_zero,encC,List.append_nil]; try simp
  intro i hi
  have hlen:(putU n.ls.length ++ encC (n.ls.take i)).length < 400000:=by
    have:=encC_tlen hl hgl i
    simp only [List.length_append]
    omega
  by_cases h9:(i:Int) < (n.ls.length:Int)
  · have hi':i < n.ls.length:=by omega
    have e8:=wi (n:=(i:Int) + 1) (by omega) (by omega)
    obtain ⟨g1,g2⟩:=gdLc_at hgl hi'
    have hs:encC (n.ls.take (i + 1)) = encC (n.ls.take i) ++ (putU (nth n.ls i).f.toNat ++ encN (nth n.ls i).l):=encC_tk hi'
    obtain ⟨k,hk,hk2⟩:=gdI_nat g1
    rw [hk,Int.toNat_natCast] at hs
    have hu2:=pU hk2
    have hw:putU n.ls.length ++ encC (n.ls.take i) ++ putU k ++ encN (nth n.ls i).l = putU n.ls.length ++ encC (n.ls.take (i + 1)):=by rw [hs]; simp only [List.append_assoc]
    generalize putU n.ls.length ++ encC (n.ls.take i) = B at *
    have c2:=x_u (l:=B) k hk2 (by omega)
    have c3:=u_names (nth n.ls i).l g2 (b:=B ++ putU k) (by rw [List.length_append]; omega)
    simp only [go_sem,List.length_map,wx,nsC,decide_eq_true h9,hk]
    refine ⟨by omega,h9,?_⟩
    refine dcall_same c2 (by simp [go_sem,wx]) rfl ?_
    simp only [go_sem,List.length_map,wx,nsC]
    refine ⟨by omega,h9,?_⟩
    refine call_same (c3) (by simp [go_sem,List.length_map,wx,nsC]) ?_
    simp only [go_sem,List.length_map,wx,nsC]
    rw [hw]
    refine klp_n (i + 1) (show i + 1 ≤ n.ls.length by omega) (show n.ls.length - (i + 1) < n.ls.length - i by omega) (Wk.of ?_ ?_)
    · simp only [go_sem,List.length_map,wx,nsC,e8]; try simp
    · simp only [go_sem,List.length_map,wx,nsC]; try simp [go_sem]
  obtain rfl:i = n.ls.length:=by omega
  rw [List.take_length,show putU n.ls.length ++ encC n.ls = encLs n.ls from rfl]
  simp only [go_sem,List.length_map,wx,nsC,decide_eq_false h9]
  refine dcall_same (x_y (l:=prt 0 (encT n.m)) 2 (by (try simp only [List.length_append]); (try simp only [List.length_nil]); omega)) (by simp [go_sem,wx]) rfl ?_
  simp only [go_sem,List.length_map,wx,nsC]
  have p2:=x_p (l:=prt 0 (encT n.m)) (x:=encLs n.ls) 2 (by (try simp only [List.length_append]); (try simp only [List.length_nil]); omega) (by omega)
  refine call_same (p2) (by simp [go_sem,List.length_map,wx,nsC]) ?_
  simp only [go_sem,List.length_map,wx,nsC,f11,f20,f31]
  refine call_same (x_d (prt 0 (encT n.m) ++ prt 2 (encLs n.ls))) (by simp [go_sem,List.length_map,wx,nsC]) ?_
  simp only [go_sem,List.length_map,wx,nsC]
  exact pdone [] (by simp only [go_sem,List.length_map,wx,nsC]) (by first | rfl | simp [go_sem,slv_ids,List.length_map,wx,nsC])
theorem w_renc110 (n:Ns) (hg:gdN n) (cc:PCalls Tryz.prog nX84 [.agg [.str n.m,.sl 2 (n.fs.map nm_),.sl 2 (n.ls.map lc_)]] (.int .i64 0)) (h1:n.m ≠ []) (h2:n.fs ≠ []) (h3:n.ls = []):PCalls Tryz.prog nX68 [ns_ n] (.tup [.sl 1 ((bytesN n).map by_),.int .i64 0]):=by
  refine pfun_sound (ic:=FX68.body) mixed cX68 rfl rfl ?_
  have f11:(!(n.m == [])) = true:=by simp [h1]
  have f21:decide ((n.fs.length:Int) > 0) = true:=by have:=List.length_pos_iff.2 h2; simp; omega
  have f30:decide ((n.ls.length:Int) > 0) = false:=by simp [h3]
  have a1:=encT_len hg.1
  have a2:=prt_len (b:=0) (x:=encT n.m) (by omega)
  have a3:=encN_len hg.2.1.2
  have a4:=prt_len (b:=1) (x:=encN n.fs) (by omega)
  have a5:=encLs_len hg.2.2.1 hg.2.2.2
  have a6:=prt_len (b:=2) (x:=encLs n.ls) (by omega)
  have hB:bytesN n = prt 0 (encT n.m) ++ prt 1 (encN n.fs):=by rw [bytesN_pt]; simp [pt1,pt2,pt3,h1,h2,h3]
  rw [hB]
  simp only [go_sem,List.length_map,wx,nsC,FX68]
  refine call_same (cc) (by simp [go_sem,List.length_map,wx,nsC]) ?_
  simp only [go_sem,List.length_map,wx,nsC,f11,f21,f30]
  refine dcall_same (x_y0 0) (by simp [go_sem,wx]) rfl ?_
  simp only [go_sem,List.length_map,wx,nsC]
  refine call_same (x_t0 hg.1) (by simp [go_sem,List.length_map,wx,nsC]) ?_
  simp only [go_sem,List.length_map,wx,nsC]
  have p0:=x_p (l:=([]:List UInt8)) (x:=encT n.m) 0 (by (try simp only [List.length_append]); (try simp only [List.length_nil]); omega) (by omega)
  rw [List.nil_append (prt 0 _)] at p0
  refine call_same (p0) (by simp [go_sem,List.length_map,wx,nsC]) ?_
  simp only [go_sem,List.length_map,wx,nsC,f11,f21,f30]
  refine dcall_same (x_y (l:=prt 0 (encT n.m)) 1 (by (try simp only [List.length_append]); (try simp only [List.length_nil]); omega)) (by simp [go_sem,wx]) rfl ?_
  simp only [go_sem,List.length_map,wx,nsC]
  refine call_same (u_names0 n.fs hg.2.1.2) (by simp [go_sem,List.length_map,wx,nsC]) ?_
  simp only [go_sem,List.length_map,wx,nsC]
  have p1:=x_p (l:=prt 0 (encT n.m)) (x:=encN n.fs) 1 (by (try simp only [List.length_append]); (try simp only [List.length_nil]); omega) (by omega)
  refine call_same (p1) (by simp [go_sem,List.length_map,wx,nsC]) ?_
  simp only [go_sem,List.length_map,wx,nsC,f11,f21,f30]
  refine call_same (x_d (prt 0 (encT n.m) ++ prt 1 (encN n.fs))) (by simp [go_sem,List.length_map,wx,nsC]) ?_
  simp only [go_sem,List.length_map,wx,nsC]
  exact pdone [] (by simp only [go_sem,List.length_map,wx,nsC]) (by first | rfl | simp [go_sem,slv_ids,List.length_map,wx,nsC])
theorem w_renc111 (n:Ns) (hg:gdN n) (cc:PCalls Tryz.prog nX84 [.agg [.str n.m,.sl 2 (n.fs.map nm_),.sl 2 (n.ls.map lc_)]] (.int .i64 0)) (h1:n.m ≠ []) (h2:n.fs ≠ []) (h3:n.ls ≠ []):PCalls Tryz.prog nX68 [ns_ n] (.tup [.sl 1 ((bytesN n).map by_),.int .i64 0]):=by
  refine pfun_sound (ic:=FX68.body) mixed cX68 rfl rfl ?_
  have f11:(!(n.m == [])) = true:=by simp [h1]
  have f21:decide ((n.fs.length:Int) > 0) = true:=by have:=List.length_pos_iff.2 h2; simp; omega
  have f31:decide ((n.ls.length:Int) > 0) = true:=by have:=List.length_pos_iff.2 h3; simp; omega
  have a1:=encT_len hg.1
  have a2:=prt_len (b:=0) (x:=encT n.m) (by omega)
  have a3:=encN_len hg.2.1.2
  have a4:=prt_len (b:=1) (x:=encN n.fs) (by omega)
  have a5:=encLs_len hg.2.2.1 hg.2.2.2
  have a6:=prt_len (b:=2) (x:=encLs n.ls) (by omega)
  have hB:bytesN n = prt 0 (encT n.m) ++ prt 1 (encN n.fs) ++ prt 2 (encLs n.ls):=by rw [bytesN_pt]; simp [pt1,pt2,pt3,h1,h2,h3]
  rw [hB]
  simp only [go_sem,List.length_map,wx,nsC,FX68]
  refine call_same (cc) (by simp [go_sem,List.length_map,wx,nsC]) ?_
  simp only [go_sem,List.length_map,wx,nsC,f11,f21,f31]
  refine dcall_same (x_y0 0) (by simp [go_sem,wx]) rfl ?_
  simp only [go_sem,List.length_map,wx,nsC]
  refine call_same (x_t0 hg.1) (by simp [go_sem,List.length_map,wx,nsC]) ?_
  simp only [go_sem,List.length_map,wx,nsC]
  have p0:=x_p (l:=([]:List UInt8)) (x:=encT n.m) 0 (by (try simp only [List.length_append]); (try simp only [List.length_nil]); omega) (by omega)
  rw [List.nil_append (prt 0 _)] at p0
  refine call_same (p0) (by simp [go_sem,List.length_map,wx,nsC]) ?_
  simp only [go_sem,List.length_map,wx,nsC,f11,f21,f31]
  refine dcall_same (x_y (l:=prt 0 (encT n.m)) 1 (by (try simp only [List.length_append]); (try simp only [List.length_nil]); omega)) (by simp [go_sem,wx]) rfl ?_
  simp only [go_sem,List.length_map,wx,nsC]
  refine call_same (u_names0 n.fs hg.2.1.2) (by simp [go_sem,List.length_map,wx,nsC]) ?_
  simp only [go_sem,List.length_map,wx,nsC]
  have p1:=x_p (l:=prt 0 (encT n.m)) (x:=encN n.fs) 1 (by (try simp only [List.length_append]); (try simp only [List.length_nil]); omega) (by omega)
  refine call_same (p1) (by simp [go_sem,List.length_map,wx,nsC]) ?_
  simp only [go_sem,List.length_map,wx,nsC,f11,f21,f31]
  obtain ⟨_,_,hl,hgl⟩:=hg
  have hu:=pU (n:=n.ls.length) (by omega)
  refine call_same (x_u0 n.ls.length (by omega)) (by simp [go_sem,List.length_map,wx,nsC]) ?_
  simp only [go_sem,List.length_map,wx,nsC,f11,f21,f31]
  refine loop_rule (fun i:Nat=>⟨[(7,.int .i64 i),(5,.mp 5 2 0 0),(6,.mp 6 2 0 0),(1,.mp 1 3 0 0)],[(6,⟨71,2,[[.sl 1 ((putU n.ls.length ++ encC (n.ls.take i)).map by_),.int .i64 0]],true⟩),(5,⟨71,2,[[.sl 1 ((prt 0 (encT n.m) ++ prt 1 (encN n.fs)).map by_),.int .i64 0]],true⟩),(1,⟨25,3,[nsC n],true⟩)]⟩) (fun i=>i ≤ n.ls.length) (fun i=>n.ls.length - i) 0 (Nat.zero_le _) (Wk.of ?_ ?_) ?_
  · simp only [go_sem,List.length_map,wx,nsC]; try simp
  · simp only [go_sem,List.length_map,wx,nsC,List.take_zero,encC,List.append_nil]; try simp
  intro i hi
  have hlen:(putU n.ls.length ++ encC (n.ls.take i)).length < 400000:=by
    have:=encC_tlen hl hgl i
    simp only [List.length_append]
    omega
  by_cases h9:(i:Int) < (n.ls.length:Int)
  · have hi':i < n.ls.length:=by omega
    have e8:=wi (n:=(i:Int) + 1) (by omega) (by omega)
    obtain ⟨g1,g2⟩:=gdLc_at hgl hi'
    have hs:encC (n.ls.take (i + 1)) = encC (n.ls.take i) ++ (putU (nth n.ls i).f.toNat ++ encN (nth n.ls i).l):=encC_tk hi'
    obtain ⟨k,hk,hk2⟩:=gdI_nat g1
    rw [hk,Int.toNat_natCast] at hs
    have hu2:=pU hk2
    have hw:putU n.ls.length ++ encC (n.ls.take i) ++ putU k ++ encN (nth n.ls i).l = putU n.ls.length ++ encC (n.ls.take (i + 1)):=by rw [hs]; simp only [List.append_assoc]
    generalize putU n.ls.length ++ encC (n.ls.take i) = B at *
    have c2:=x_u (l:=B) k hk2 (by omega)
    have c3:=u_names (nth n.ls i).l g2 (b:=B ++ putU k) (by rw [List.length_append]; omega)
    simp only [go_sem,List.length_map,wx,nsC,decide_eq_true h9,hk]
    refine ⟨by omega,h9,?_⟩
    refine dcall_same c2 (by simp [go_sem,wx]) rfl ?_
    simp only [go_sem,List.length_map,wx,nsC]
    refine ⟨by omega,h9,?_⟩
    refine call_same (c3) (by simp [go_sem,List.length_map,wx,nsC]) ?_
    simp only [go_sem,List.length_map,wx,nsC]
    rw [hw]
    refine klp_n (i + 1) (show i + 1 ≤ n.ls.length by omega) (show n.ls.length - (i + 1) < n.ls.length - i by omega) (Wk.of ?_ ?_)
    · simp only [go_sem,List.length_map,wx,nsC,e8]; try simp
    · simp only [go_sem,List.length_map,wx,nsC]; try simp [go_sem]
  obtain rfl:i = n.ls.length:=by omega
  rw [List.take_length,show putU n.ls.length ++ encC n.ls = encLs n.ls from rfl]
  simp only [go_sem,List.length_map,wx,nsC,decide_eq_false h9]
  refine dcall_same (x_y (l:=prt 0 (encT n.m) ++ prt 1 (encN n.fs)) 2 (by (try simp only [List.length_append]); (try simp only [List.length_nil]); omega)) (by simp [go_sem,wx]) rfl ?_
  simp only [go_sem,List.length_map,wx,nsC]
  have p2:=x_p (l:=prt 0 (encT n.m) ++ prt 1 (encN n.fs)) (x:=encLs n.ls) 2 (by (try simp only [List.length_append]); (try simp only [List.length_nil]); omega) (by omega)
  refine call_same (p2) (by simp [go_sem,List.length_map,wx,nsC]) ?_
  simp only [go_sem,List.length_map,wx,nsC,f11,f21,f31]
  refine call_same (x_d (prt 0 (encT n.m) ++ prt 1 (encN n.fs) ++ prt 2 (encLs n.ls))) (by simp [go_sem,List.length_map,wx,nsC]) ?_
  simp only [go_sem,List.length_map,wx,nsC]
  exact pdone [] (by simp only [go_sem,List.length_map,wx,nsC]) (by first | rfl | simp [go_sem,slv_ids,List.length_map,wx,nsC])
theorem u_encode (n:Ns) (hn:smN n):PCalls Tryz.prog nX68 [ns_ n] (.tup [.sl 1 ((encA n).1.map by_),.int .i64 (encA n).2]):=by
  have cc:=u_check n hn
  simp only [ns_e] at cc
  by_cases h:chk n = 0
  rotate_left
  · refine pfun_sound (ic:=FX68.body) mixed cX68 rfl rfl ?_
    rw [show encA n = ([],chk n) by unfold encA; rw [if_pos h]]
    simp only [go_sem,List.length_map,wx,nsC,FX68]
    refine call_same (cc) (by simp [go_sem,List.length_map,wx,nsC]) ?_
    simp only [go_sem,List.length_map,wx,nsC,bne_t h]
    exact wpdone (Wk.nls _ 2 1 (by simp only [go_sem,List.length_map,wx,nsC])) [] (by first | rfl | simp only [go_sem,List.length_map,wx,nsC]) rfl
  obtain ⟨hg,_⟩:=chk_ok h
  rw [show encA n = (bytesN n,0) by unfold encA; rw [if_neg (by simp [h])]]
  rw [h] at cc
  by_cases h1:n.m = [] <;> by_cases h2:n.fs = [] <;> by_cases h3:n.ls = []
  · exact w_renc000 n hg cc h1 h2 h3
  · exact w_renc001 n hg cc h1 h2 h3
  · exact w_renc010 n hg cc h1 h2 h3
  · exact w_renc011 n hg cc h1 h2 h3
  · exact w_renc100 n hg cc h1 h2 h3
  · exact w_renc101 n hg cc h1 h2 h3
  · exact w_renc110 n hg cc h1 h2 h3
  · exact w_renc111 n hg cc h1 h2 h3
end Go.Proofs.YtoikbadfbneahaaGreatDoor
