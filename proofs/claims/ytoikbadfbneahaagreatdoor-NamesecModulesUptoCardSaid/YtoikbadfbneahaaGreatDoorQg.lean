/-
  Chapter 14,walks: Encode as a whole.
-/
import Derived.Test.YtoikbadfbneahaaGreatDoorQf
set_option linter.unusedVariables false
set_option linter.unusedSimpArgs false
set_option linter.unusedSectionVars false
set_option maxRecDepth 100000
set_option maxHeartbeats 20000000
set_option linter.unusedVariables false
set_option linter.unusedSimpArgs false
namespace Go.Proofs.YtoikbadfbneahaaGreatDoor
open Go Go.Mw
-- @U: List.length_map,wo,wa,nr,nsC,wv

def pt1 (n:Ns):List UInt8:=if n.m = [] then [] else prt 0 (encT n.m)
def pt2 (n:Ns):List UInt8:=if n.fs = [] then [] else prt 1 (encN n.fs)
def pt3 (n:Ns):List UInt8:=if n.ls = [] then [] else prt 2 (encLs n.ls)
theorem bytesN_pt (n:Ns):bytesN n = (pt1 n ++ pt2 n) ++ pt3 n:=rfl
-- WAYS (printed by tools/gne.py)
theorem w_enc000 (n:Ns) (hg:gdN n) (cc:PCalls Tryz.prog nX90 [.agg [.str n.m,.sl 2 (n.fs.map nm_),.sl 2 (n.ls.map lc_)]] (.int .i64 0)) (h1:n.m = []) (h2:n.fs = []) (h3:n.ls = []):PCalls Tryz.prog nX72 [ns_ n] (.tup [.sl 1 ((bytesN n).map by_),.int .i64 0]):=by
  refine pfun_sound (ic:=FX72.body) mixed cX72 rfl rfl ?_
  have f10:(!(n.m == [])) = false:=by simp [h1]
  have f20:decide ((n.fs.length:Int) > 0) = false:=by simp [h2]
  have f30:decide ((n.ls.length:Int) > 0) = false:=by simp [h3]
  have a1:=encT_len hg.1
  have a2:=prt_len (b:=0) (x:=encT n.m) (by omega)
  have a3:=encN_len hg.2.1.2
  have a4:=prt_len (b:=1) (x:=encN n.fs) (by omega)
  have a5:=encLs_len hg.2.2.1 hg.2.2.2
  have a6:=prt_len (b:=2) (x:=encLs n.ls) (by omega)
  have hB:bytesN n = ([]:List UInt8):=by rw [bytesN_pt]; simp [pt1,pt2,pt3,h1,h2,h3]
  have hl:(([]:List UInt8)).length ≤ 400000:=by rw [← hB]; exact bytesN_len hg
  have d4:=s_wdone true (([]:List UInt8)) 0 (by omega)
  rw [show wD true (([]:List UInt8)) 0 = (some (([]:List UInt8)),0) from rfl] at d4
  rw [hB]
  simp only [go_sem,List.length_map,wo,wa,nr,nsC,wv,FX72]
  refine call_same (cc) (by simp [go_sem,List.length_map,wo,wa,nr,nsC,wv]) ?_
  simp only [go_sem,List.length_map,wo,wa,nr,nsC,wv]
  refine call_wnew 904 905 (by decide) (by decide) (by decide) (by simp only [go_sem,List.length_map,wo,wa,nr,nsC,wv]) (by simp only [go_sem,List.length_map,wo,wa,nr,nsC,wv]) ?_
  simp only [go_sem,List.length_map,wo,wa,nr,nsC,wv,f10,f20,f30]
  refine call_w [] (k:=904) (j:=905) (d4) (by decide) (by decide) (by decide) (by decide) (by first | rfl | simp [go_sem,slv_ids,List.length_map,wo,wa,nr,nsC,wv]) (by simp [go_sem,List.length_map,wo,wa,nr,nsC,wv]) (by rfl) (by rfl) (by rfl) ?_
  simp only [go_sem,List.length_map,wo,wa,nr,nsC,wv]
  exact pdone [] (by simp only [go_sem,List.length_map,wo,wa,nr,nsC,wv,slv_some]) (by first | rfl | simp [go_sem,slv_ids,List.length_map,wo,wa,nr,nsC,wv])
theorem w_enc001 (n:Ns) (hg:gdN n) (cc:PCalls Tryz.prog nX90 [.agg [.str n.m,.sl 2 (n.fs.map nm_),.sl 2 (n.ls.map lc_)]] (.int .i64 0)) (h1:n.m = []) (h2:n.fs = []) (h3:n.ls ≠ []):PCalls Tryz.prog nX72 [ns_ n] (.tup [.sl 1 ((bytesN n).map by_),.int .i64 0]):=by
  refine pfun_sound (ic:=FX72.body) mixed cX72 rfl rfl ?_
  have f10:(!(n.m == [])) = false:=by simp [h1]
  have f20:decide ((n.fs.length:Int) > 0) = false:=by simp [h2]
  have f31:decide ((n.ls.length:Int) > 0) = true:=by have:=List.length_pos_iff.2 h3; simp; omega
  have a1:=encT_len hg.1
  have a2:=prt_len (b:=0) (x:=encT n.m) (by omega)
  have a3:=encN_len hg.2.1.2
  have a4:=prt_len (b:=1) (x:=encN n.fs) (by omega)
  have a5:=encLs_len hg.2.2.1 hg.2.2.2
  have a6:=prt_len (b:=2) (x:=encLs n.ls) (by omega)
  have hB:bytesN n = prt 2 (encLs n.ls):=by rw [bytesN_pt]; simp [pt1,pt2,pt3,h1,h2,h3]
  have hl:(prt 2 (encLs n.ls)).length ≤ 400000:=by rw [← hB]; exact bytesN_len hg
  have d4:=s_wdone true (prt 2 (encLs n.ls)) 0 (by omega)
  rw [show wD true (prt 2 (encLs n.ls)) 0 = (some (prt 2 (encLs n.ls)),0) from rfl] at d4
  rw [hB]
  simp only [go_sem,List.length_map,wo,wa,nr,nsC,wv,FX72]
  refine call_same (cc) (by simp [go_sem,List.length_map,wo,wa,nr,nsC,wv]) ?_
  simp only [go_sem,List.length_map,wo,wa,nr,nsC,wv]
  refine call_wnew 904 905 (by decide) (by decide) (by decide) (by simp only [go_sem,List.length_map,wo,wa,nr,nsC,wv]) (by simp only [go_sem,List.length_map,wo,wa,nr,nsC,wv]) ?_
  simp only [go_sem,List.length_map,wo,wa,nr,nsC,wv,f10,f20,f31]
  have c3:=s_sub14 (by kernel_rfl) (wc_3 n hg) (by omega) 2 (l:=([]:List UInt8)) (by (try simp only [List.length_append]); (try simp only [List.length_nil]); omega)
  rw [List.nil_append] at c3
  refine ⟨by kernel_rfl,?_⟩
  refine call_obj (σ2:=[(904,wo 905 true (([]:List UInt8)) 0),(905,wa (([]:List UInt8))),(5,⟨61,1,[[.mp 904 3 0 0]],true⟩),(1,nr n)]) (r3:=.tup []) (σ3:=[(904,wo 905 true (prt 2 (encLs n.ls)) 0),(905,wa (prt 2 (encLs n.ls))),(5,⟨61,1,[[.mp 904 3 0 0]],true⟩),(1,nr n)]) c3 [(1000,904),(2000,905),(1001,5),(1002,1)] [905] rfl rfl rfl rfl ?_ ?_ ?_ ?_
  · simp only [go_sem,List.length_map,wo,wa,nr,nsC,wv]; simp
  · simp only [go_sem,List.length_map,wo,wa,nr,nsC,wv]; simp [sb,bw,swp,hget]
  · simp only [go_sem,List.length_map,wo,wa,nr,nsC,wv]; simp [hget]
  simp only [go_sem,List.length_map,wo,wa,nr,nsC,wv,f10,f20,f31]
  refine call_w [] (k:=904) (j:=905) (d4) (by decide) (by decide) (by decide) (by decide) (by first | rfl | simp [go_sem,slv_ids,List.length_map,wo,wa,nr,nsC,wv]) (by simp [go_sem,List.length_map,wo,wa,nr,nsC,wv]) (by rfl) (by rfl) (by rfl) ?_
  simp only [go_sem,List.length_map,wo,wa,nr,nsC,wv]
  exact pdone [] (by simp only [go_sem,List.length_map,wo,wa,nr,nsC,wv,slv_some]) (by first | rfl | simp [go_sem,slv_ids,List.length_map,wo,wa,nr,nsC,wv])
theorem w_enc010 (n:Ns) (hg:gdN n) (cc:PCalls Tryz.prog nX90 [.agg [.str n.m,.sl 2 (n.fs.map nm_),.sl 2 (n.ls.map lc_)]] (.int .i64 0)) (h1:n.m = []) (h2:n.fs ≠ []) (h3:n.ls = []):PCalls Tryz.prog nX72 [ns_ n] (.tup [.sl 1 ((bytesN n).map by_),.int .i64 0]):=by
  refine pfun_sound (ic:=FX72.body) mixed cX72 rfl rfl ?_
  have f10:(!(n.m == [])) = false:=by simp [h1]
  have f21:decide ((n.fs.length:Int) > 0) = true:=by have:=List.length_pos_iff.2 h2; simp; omega
  have f30:decide ((n.ls.length:Int) > 0) = false:=by simp [h3]
  have a1:=encT_len hg.1
  have a2:=prt_len (b:=0) (x:=encT n.m) (by omega)
  have a3:=encN_len hg.2.1.2
  have a4:=prt_len (b:=1) (x:=encN n.fs) (by omega)
  have a5:=encLs_len hg.2.2.1 hg.2.2.2
  have a6:=prt_len (b:=2) (x:=encLs n.ls) (by omega)
  have hB:bytesN n = prt 1 (encN n.fs):=by rw [bytesN_pt]; simp [pt1,pt2,pt3,h1,h2,h3]
  have hl:(prt 1 (encN n.fs)).length ≤ 400000:=by rw [← hB]; exact bytesN_len hg
  have d4:=s_wdone true (prt 1 (encN n.fs)) 0 (by omega)
  rw [show wD true (prt 1 (encN n.fs)) 0 = (some (prt 1 (encN n.fs)),0) from rfl] at d4
  rw [hB]
  simp only [go_sem,List.length_map,wo,wa,nr,nsC,wv,FX72]
  refine call_same (cc) (by simp [go_sem,List.length_map,wo,wa,nr,nsC,wv]) ?_
  simp only [go_sem,List.length_map,wo,wa,nr,nsC,wv]
  refine call_wnew 904 905 (by decide) (by decide) (by decide) (by simp only [go_sem,List.length_map,wo,wa,nr,nsC,wv]) (by simp only [go_sem,List.length_map,wo,wa,nr,nsC,wv]) ?_
  simp only [go_sem,List.length_map,wo,wa,nr,nsC,wv,f10,f21,f30]
  have c2:=s_sub14 (by kernel_rfl) (wc_2 n hg) (by omega) 1 (l:=([]:List UInt8)) (by (try simp only [List.length_append]); (try simp only [List.length_nil]); omega)
  rw [List.nil_append] at c2
  refine ⟨by kernel_rfl,?_⟩
  refine call_obj (σ2:=[(904,wo 905 true (([]:List UInt8)) 0),(905,wa (([]:List UInt8))),(5,⟨61,1,[[.mp 904 3 0 0]],true⟩),(1,nr n)]) (r3:=.tup []) (σ3:=[(904,wo 905 true (prt 1 (encN n.fs)) 0),(905,wa (prt 1 (encN n.fs))),(5,⟨61,1,[[.mp 904 3 0 0]],true⟩),(1,nr n)]) c2 [(1000,904),(2000,905),(1001,5),(1002,1)] [905] rfl rfl rfl rfl ?_ ?_ ?_ ?_
  · simp only [go_sem,List.length_map,wo,wa,nr,nsC,wv]; simp
  · simp only [go_sem,List.length_map,wo,wa,nr,nsC,wv]; simp [sb,bw,swp,hget]
  · simp only [go_sem,List.length_map,wo,wa,nr,nsC,wv]; simp [hget]
  simp only [go_sem,List.length_map,wo,wa,nr,nsC,wv,f10,f21,f30]
  refine call_w [] (k:=904) (j:=905) (d4) (by decide) (by decide) (by decide) (by decide) (by first | rfl | simp [go_sem,slv_ids,List.length_map,wo,wa,nr,nsC,wv]) (by simp [go_sem,List.length_map,wo,wa,nr,nsC,wv]) (by rfl) (by rfl) (by rfl) ?_
  simp only [go_sem,List.length_map,wo,wa,nr,nsC,wv]
  exact pdone [] (by simp only [go_sem,List.length_map,wo,wa,nr,nsC,wv,slv_some]) (by first | rfl | simp [go_sem,slv_ids,List.length_map,wo,wa,nr,nsC,wv])
theorem w_enc011 (n:Ns) (hg:gdN n) (cc:PCalls Tryz.prog nX90 [.agg [.str n.m,.sl 2 (n.fs.map nm_),.sl 2 (n.ls.map lc_)]] (.int .i64 0)) (h1:n.m = []) (h2:n.fs ≠ []) (h3:n.ls ≠ []):PCalls Tryz.prog nX72 [ns_ n] (.tup [.sl 1 ((bytesN n).map by_),.int .i64 0]):=by
  refine pfun_sound (ic:=FX72.body) mixed cX72 rfl rfl ?_
  have f10:(!(n.m == [])) = false:=by simp [h1]
  have f21:decide ((n.fs.length:Int) > 0) = true:=by have:=List.length_pos_iff.2 h2; simp; omega
  have f31:decide ((n.ls.length:Int) > 0) = true:=by have:=List.length_pos_iff.2 h3; simp; omega
  have a1:=encT_len hg.1
  have a2:=prt_len (b:=0) (x:=encT n.m) (by omega)
  have a3:=encN_len hg.2.1.2
  have a4:=prt_len (b:=1) (x:=encN n.fs) (by omega)
  have a5:=encLs_len hg.2.2.1 hg.2.2.2
  have a6:=prt_len (b:=2) (x:=encLs n.ls) (by omega)
  have hB:bytesN n = prt 1 (encN n.fs) ++ prt 2 (encLs n.ls):=by rw [bytesN_pt]; simp [pt1,pt2,pt3,h1,h2,h3]
  have hl:(prt 1 (encN n.fs) ++ prt 2 (encLs n.ls)).length ≤ 400000:=by rw [← hB]; exact bytesN_len hg
  have d4:=s_wdone true (prt 1 (encN n.fs) ++ prt 2 (encLs n.ls)) 0 (by omega)
  rw [show wD true (prt 1 (encN n.fs) ++ prt 2 (encLs n.ls)) 0 = (some (prt 1 (encN n.fs) ++ prt 2 (encLs n.ls)),0) from rfl] at d4
  rw [hB]
  simp only [go_sem,List.length_map,wo,wa,nr,nsC,wv,FX72]
  refine call_same (cc) (by simp [go_sem,List.length_map,wo,wa,nr,nsC,wv]) ?_
  simp only [go_sem,List.length_map,wo,wa,nr,nsC,wv]
  refine call_wnew 904 905 (by decide) (by decide) (by decide) (by simp only [go_sem,List.length_map,wo,wa,nr,nsC,wv]) (by simp only [go_sem,List.length_map,wo,wa,nr,nsC,wv]) ?_
  simp only [go_sem,List.length_map,wo,wa,nr,nsC,wv,f10,f21,f31]
  have c2:=s_sub14 (by kernel_rfl) (wc_2 n hg) (by omega) 1 (l:=([]:List UInt8)) (by (try simp only [List.length_append]); (try simp only [List.length_nil]); omega)
  rw [List.nil_append] at c2
  refine ⟨by kernel_rfl,?_⟩
  refine call_obj (σ2:=[(904,wo 905 true (([]:List UInt8)) 0),(905,wa (([]:List UInt8))),(5,⟨61,1,[[.mp 904 3 0 0]],true⟩),(1,nr n)]) (r3:=.tup []) (σ3:=[(904,wo 905 true (prt 1 (encN n.fs)) 0),(905,wa (prt 1 (encN n.fs))),(5,⟨61,1,[[.mp 904 3 0 0]],true⟩),(1,nr n)]) c2 [(1000,904),(2000,905),(1001,5),(1002,1)] [905] rfl rfl rfl rfl ?_ ?_ ?_ ?_
  · simp only [go_sem,List.length_map,wo,wa,nr,nsC,wv]; simp
  · simp only [go_sem,List.length_map,wo,wa,nr,nsC,wv]; simp [sb,bw,swp,hget]
  · simp only [go_sem,List.length_map,wo,wa,nr,nsC,wv]; simp [hget]
  simp only [go_sem,List.length_map,wo,wa,nr,nsC,wv,f10,f21,f31]
  have c3:=s_sub14 (by kernel_rfl) (wc_3 n hg) (by omega) 2 (l:=prt 1 (encN n.fs)) (by (try simp only [List.length_append]); (try simp only [List.length_nil]); omega)
  refine ⟨by kernel_rfl,?_⟩
  refine call_obj (σ2:=[(904,wo 905 true (prt 1 (encN n.fs)) 0),(905,wa (prt 1 (encN n.fs))),(5,⟨61,1,[[.mp 904 3 0 0]],true⟩),(1,nr n)]) (r3:=.tup []) (σ3:=[(904,wo 905 true (prt 1 (encN n.fs) ++ prt 2 (encLs n.ls)) 0),(905,wa (prt 1 (encN n.fs) ++ prt 2 (encLs n.ls))),(5,⟨61,1,[[.mp 904 3 0 0]],true⟩),(1,nr n)]) c3 [(1000,904),(2000,905),(1001,5),(1002,1)] [905] rfl rfl rfl rfl ?_ ?_ ?_ ?_
  · simp only [go_sem,List.length_map,wo,wa,nr,nsC,wv]; simp
  · simp only [go_sem,List.length_map,wo,wa,nr,nsC,wv]; simp [sb,bw,swp,hget]
  · simp only [go_sem,List.length_map,wo,wa,nr,nsC,wv]; simp [hget]
  simp only [go_sem,List.length_map,wo,wa,nr,nsC,wv,f10,f21,f31]
  refine call_w [] (k:=904) (j:=905) (d4) (by decide) (by decide) (by decide) (by decide) (by first | rfl | simp [go_sem,slv_ids,List.length_map,wo,wa,nr,nsC,wv]) (by simp [go_sem,List.length_map,wo,wa,nr,nsC,wv]) (by rfl) (by rfl) (by rfl) ?_
  simp only [go_sem,List.length_map,wo,wa,nr,nsC,wv]
  exact pdone [] (by simp only [go_sem,List.length_map,wo,wa,nr,nsC,wv,slv_some]) (by first | rfl | simp [go_sem,slv_ids,List.length_map,wo,wa,nr,nsC,wv])
theorem w_enc100 (n:Ns) (hg:gdN n) (cc:PCalls Tryz.prog nX90 [.agg [.str n.m,.sl 2 (n.fs.map nm_),.sl 2 (n.ls.map lc_)]] (.int .i64 0)) (h1:n.m ≠ []) (h2:n.fs = []) (h3:n.ls = []):PCalls Tryz.prog nX72 [ns_ n] (.tup [.sl 1 ((bytesN n).map by_),.int .i64 0]):=by
  refine pfun_sound (ic:=FX72.body) mixed cX72 rfl rfl ?_
  have f11:(!(n.m == [])) = true:=by simp [h1]
  have f20:decide ((n.fs.length:Int) > 0) = false:=by simp [h2]
  have f30:decide ((n.ls.length:Int) > 0) = false:=by simp [h3]
  have a1:=encT_len hg.1
  have a2:=prt_len (b:=0) (x:=encT n.m) (by omega)
  have a3:=encN_len hg.2.1.2
  have a4:=prt_len (b:=1) (x:=encN n.fs) (by omega)
  have a5:=encLs_len hg.2.2.1 hg.2.2.2
  have a6:=prt_len (b:=2) (x:=encLs n.ls) (by omega)
  have hB:bytesN n = prt 0 (encT n.m):=by rw [bytesN_pt]; simp [pt1,pt2,pt3,h1,h2,h3]
  have hl:(prt 0 (encT n.m)).length ≤ 400000:=by rw [← hB]; exact bytesN_len hg
  have d4:=s_wdone true (prt 0 (encT n.m)) 0 (by omega)
  rw [show wD true (prt 0 (encT n.m)) 0 = (some (prt 0 (encT n.m)),0) from rfl] at d4
  rw [hB]
  simp only [go_sem,List.length_map,wo,wa,nr,nsC,wv,FX72]
  refine call_same (cc) (by simp [go_sem,List.length_map,wo,wa,nr,nsC,wv]) ?_
  simp only [go_sem,List.length_map,wo,wa,nr,nsC,wv]
  refine call_wnew 904 905 (by decide) (by decide) (by decide) (by simp only [go_sem,List.length_map,wo,wa,nr,nsC,wv]) (by simp only [go_sem,List.length_map,wo,wa,nr,nsC,wv]) ?_
  simp only [go_sem,List.length_map,wo,wa,nr,nsC,wv,f11,f20,f30]
  have c1:=s_sub14 (by kernel_rfl) (wc_1 n hg) (by omega) 0 (l:=([]:List UInt8)) (by (try simp only [List.length_append]); (try simp only [List.length_nil]); omega)
  rw [List.nil_append] at c1
  refine ⟨by kernel_rfl,?_⟩
  refine call_obj (σ2:=[(904,wo 905 true (([]:List UInt8)) 0),(905,wa (([]:List UInt8))),(5,⟨61,1,[[.mp 904 3 0 0]],true⟩),(1,nr n)]) (r3:=.tup []) (σ3:=[(904,wo 905 true (prt 0 (encT n.m)) 0),(905,wa (prt 0 (encT n.m))),(5,⟨61,1,[[.mp 904 3 0 0]],true⟩),(1,nr n)]) c1 [(1000,904),(2000,905),(1001,5),(1002,1)] [905] rfl rfl rfl rfl ?_ ?_ ?_ ?_
  · simp only [go_sem,List.length_map,wo,wa,nr,nsC,wv]; simp
  · simp only [go_sem,List.length_map,wo,wa,nr,nsC,wv]; simp [sb,bw,swp,hget]
  · simp only [go_sem,List.length_map,wo,wa,nr,nsC,wv]; simp [hget]
  simp only [go_sem,List.length_map,wo,wa,nr,nsC,wv,f11,f20,f30]
  refine call_w [] (k:=904) (j:=905) (d4) (by decide) (by decide) (by decide) (by decide) (by first | rfl | simp [go_sem,slv_ids,List.length_map,wo,wa,nr,nsC,wv]) (by simp [go_sem,List.length_map,wo,wa,nr,nsC,wv]) (by rfl) (by rfl) (by rfl) ?_
  simp only [go_sem,List.length_map,wo,wa,nr,nsC,wv]
  exact pdone [] (by simp only [go_sem,List.length_map,wo,wa,nr,nsC,wv,slv_some]) (by first | rfl | simp [go_sem,slv_ids,List.length_map,wo,wa,nr,nsC,wv])
theorem w_enc101 (n:Ns) (hg:gdN n) (cc:PCalls Tryz.prog nX90 [.agg [.str n.m,.sl 2 (n.fs.map nm_),.sl 2 (n.ls.map lc_)]] (.int .i64 0)) (h1:n.m ≠ []) (h2:n.fs = []) (h3:n.ls ≠ []):PCalls Tryz.prog nX72 [ns_ n] (.tup [.sl 1 ((bytesN n).map by_),.int .i64 0]):=by
  refine pfun_sound (ic:=FX72.body) mixed cX72 rfl rfl ?_
  have f11:(!(n.m == [])) = true:=by simp [h1]
  have f20:decide ((n.fs.length:Int) > 0) = false:=by simp [h2]
  have f31:decide ((n.ls.length:Int) > 0) = true:=by have:=List.length_pos_iff.2 h3; simp; omega
  have a1:=encT_len hg.1
  have a2:=prt_len (b:=0) (x:=encT n.m) (by omega)
  have a3:=encN_len hg.2.1.2
  have a4:=prt_len (b:=1) (x:=encN n.fs) (by omega)
  have a5:=encLs_len hg.2.2.1 hg.2.2.2
  have a6:=prt_len (b:=2) (x:=encLs n.ls) (by omega)
  have hB:bytesN n = prt 0 (encT n.m) ++ prt 2 (encLs n.ls):=by rw [bytesN_pt]; simp [pt1,pt2,pt3,h1,h2,h3]
  have hl:(prt 0 (encT n.m) ++ prt 2 (encLs n.ls)).length ≤ 400000:=by rw [← hB]; exact bytesN_len hg
  have d4:=s_wdone true (prt 0 (encT n.m) ++ prt 2 (encLs n.ls)) 0 (by omega)
  rw [show wD true (prt 0 (encT n.m) ++ prt 2 (encLs n.ls)) 0 = (some (prt 0 (encT n.m) ++ prt 2 (encLs n.ls)),0) from rfl] at d4
  rw [hB]
  simp only [go_sem,List.length_map,wo,wa,nr,nsC,wv,FX72]
  refine call_same (cc) (by simp [go_sem,List.length_map,wo,wa,nr,nsC,wv]) ?_
  simp only [go_sem,List.length_map,wo,wa,nr,nsC,wv]
  refine call_wnew 904 905 (by decide) (by decide) (by decide) (by simp only [go_sem,List.length_map,wo,wa,nr,nsC,wv]) (by simp only [go_sem,List.length_map,wo,wa,nr,nsC,wv]) ?_
  simp only [go_sem,List.length_map,wo,wa,nr,nsC,wv,f11,f20,f31]
  have c1:=s_sub14 (by kernel_rfl) (wc_1 n hg) (by omega) 0 (l:=([]:List UInt8)) (by (try simp only [List.length_append]); (try simp only [List.length_nil]); omega)
  rw [List.nil_append] at c1
  refine ⟨by kernel_rfl,?_⟩
  refine call_obj (σ2:=[(904,wo 905 true (([]:List UInt8)) 0),(905,wa (([]:List UInt8))),(5,⟨61,1,[[.mp 904 3 0 0]],true⟩),(1,nr n)]) (r3:=.tup []) (σ3:=[(904,wo 905 true (prt 0 (encT n.m)) 0),(905,wa (prt 0 (encT n.m))),(5,⟨61,1,[[.mp 904 3 0 0]],true⟩),(1,nr n)]) c1 [(1000,904),(2000,905),(1001,5),(1002,1)] [905] rfl rfl rfl rfl ?_ ?_ ?_ ?_
  · simp only [go_sem,List.length_map,wo,wa,nr,nsC,wv]; simp
  · simp only [go_sem,List.length_map,wo,wa,nr,nsC,wv]; simp [sb,bw,swp,hget]
  · simp only [go_sem,List.length_map,wo,wa,nr,nsC,wv]; simp [hget]
  simp only [go_sem,List.length_map,wo,wa,nr,nsC,wv,f11,f20,f31]
  have c3:=s_sub14 (by kernel_rfl) (wc_3 n hg) (by omega) 2 (l:=prt 0 (encT n.m)) (by (try simp only [List.length_append]); (try simp only [List.length_nil]); omega)
  refine ⟨by kernel_rfl,?_⟩
  refine call_obj (σ2:=[(904,wo 905 true (prt 0 (encT n.m)) 0),(905,wa (prt 0 (encT n.m))),(5,⟨61,1,[[.mp 904 3 0 0]],true⟩),(1,nr n)]) (r3:=.tup []) (σ3:=[(904,wo 905 true (prt 0 (encT n.m) ++ prt 2 (encLs n.ls)) 0),(905,wa (prt 0 (encT n.m) ++ prt 2 (encLs n.ls))),(5,⟨61,1,[[.mp 904 3 0 0]],true⟩),(1,nr n)]) c3 [(1000,904),(2000,905),(1001,5),(1002,1)] [905] rfl rfl rfl rfl ?_ ?_ ?_ ?_
  · simp only [go_sem,List.length_map,wo,wa,nr,nsC,wv]; simp
  · simp only [go_sem,List.length_map,wo,wa,nr,nsC,wv]; simp [sb,bw,swp,hget]
  · simp only [go_sem,List.length_map,wo,wa,nr,nsC,wv]; simp [hget]
  simp only [go_sem,List.length_map,wo,wa,nr,nsC,wv,f11,f20,f31]
  refine call_w [] (k:=904) (j:=905) (d4) (by decide) (by decide) (by decide) (by decide) (by first | rfl | simp [go_sem,slv_ids,List.length_map,wo,wa,nr,nsC,wv]) (by simp [go_sem,List.length_map,wo,wa,nr,nsC,wv]) (by rfl) (by rfl) (by rfl) ?_
  simp only [go_sem,List.length_map,wo,wa,nr,nsC,wv]
  exact pdone [] (by simp only [go_sem,List.length_map,wo,wa,nr,nsC,wv,slv_some]) (by first | rfl | simp [go_sem,slv_ids,List.length_map,wo,wa,nr,nsC,wv])
theorem w_enc110 (n:Ns) (hg:gdN n) (cc:PCalls Tryz.prog nX90 [.agg [.str n.m,.sl 2 (n.fs.map nm_),.sl 2 (n.ls.map lc_)]] (.int .i64 0)) (h1:n.m ≠ []) (h2:n.fs ≠ []) (h3:n.ls = []):PCalls Tryz.prog nX72 [ns_ n] (.tup [.sl 1 ((bytesN n).map by_),.int .i64 0]):=by
  refine pfun_sound (ic:=FX72.body) mixed cX72 rfl rfl ?_
  have f11:(!(n.m == [])) = true:=by simp [h1]
  have f21:decide ((n.fs.length:Int) > 0) = true:=by have:=List.length_pos_iff.2 h2; simp; omega
  have f30:decide ((n.ls.length:Int) > 0) = false:=by simp [h3]
  have a1:=encT_len hg.1
  have a2:=prt_len (b:=0) (x:=encT n.m) (by omega)
  have a3:=encN_len hg.2.1.2
  have a4:=prt_len (b:=1) (x:=encN n.fs) (by omega)
  have a5:=encLs_len hg.2.2.1 hg.2.2.2
  have a6:=prt_len (b:=2) (x:=encLs n.ls) (by omega)
  have hB:bytesN n = prt 0 (encT n.m) ++ prt 1 (encN n.fs):=by rw [bytesN_pt]; simp [pt1,pt2,pt3,h1,h2,h3]
  have hl:(prt 0 (encT n.m) ++ prt 1 (encN n.fs)).length ≤ 400000:=by rw [← hB]; exact bytesN_len hg
  have d4:=s_wdone true (prt 0 (encT n.m) ++ prt 1 (encN n.fs)) 0 (by omega)
  rw [show wD true (prt 0 (encT n.m) ++ prt 1 (encN n.fs)) 0 = (some (prt 0 (encT n.m) ++ prt 1 (encN n.fs)),0) from rfl] at d4
  rw [hB]
  simp only [go_sem,List.length_map,wo,wa,nr,nsC,wv,FX72]
  refine call_same (cc) (by simp [go_sem,List.length_map,wo,wa,nr,nsC,wv]) ?_
  simp only [go_sem,List.length_map,wo,wa,nr,nsC,wv]
  refine call_wnew 904 905 (by decide) (by decide) (by decide) (by simp only [go_sem,List.length_map,wo,wa,nr,nsC,wv]) (by simp only [go_sem,List.length_map,wo,wa,nr,nsC,wv]) ?_
  simp only [go_sem,List.length_map,wo,wa,nr,nsC,wv,f11,f21,f30]
  have c1:=s_sub14 (by kernel_rfl) (wc_1 n hg) (by omega) 0 (l:=([]:List UInt8)) (by (try simp only [List.length_append]); (try simp only [List.length_nil]); omega)
  rw [List.nil_append] at c1
  refine ⟨by kernel_rfl,?_⟩
  refine call_obj (σ2:=[(904,wo 905 true (([]:List UInt8)) 0),(905,wa (([]:List UInt8))),(5,⟨61,1,[[.mp 904 3 0 0]],true⟩),(1,nr n)]) (r3:=.tup []) (σ3:=[(904,wo 905 true (prt 0 (encT n.m)) 0),(905,wa (prt 0 (encT n.m))),(5,⟨61,1,[[.mp 904 3 0 0]],true⟩),(1,nr n)]) c1 [(1000,904),(2000,905),(1001,5),(1002,1)] [905] rfl rfl rfl rfl ?_ ?_ ?_ ?_
  · simp only [go_sem,List.length_map,wo,wa,nr,nsC,wv]; simp
  · simp only [go_sem,List.length_map,wo,wa,nr,nsC,wv]; simp [sb,bw,swp,hget]
  · simp only [go_sem,List.length_map,wo,wa,nr,nsC,wv]; simp [hget]
  simp only [go_sem,List.length_map,wo,wa,nr,nsC,wv,f11,f21,f30]
  have c2:=s_sub14 (by kernel_rfl) (wc_2 n hg) (by omega) 1 (l:=prt 0 (encT n.m)) (by (try simp only [List.length_append]); (try simp only [List.length_nil]); omega)
  refine ⟨by kernel_rfl,?_⟩
  refine call_obj (σ2:=[(904,wo 905 true (prt 0 (encT n.m)) 0),(905,wa (prt 0 (encT n.m))),(5,⟨61,1,[[.mp 904 3 0 0]],true⟩),(1,nr n)]) (r3:=.tup []) (σ3:=[(904,wo 905 true (prt 0 (encT n.m) ++ prt 1 (encN n.fs)) 0),(905,wa (prt 0 (encT n.m) ++ prt 1 (encN n.fs))),(5,⟨61,1,[[.mp 904 3 0 0]],true⟩),(1,nr n)]) c2 [(1000,904),(2000,905),(1001,5),(1002,1)] [905] rfl rfl rfl rfl ?_ ?_ ?_ ?_
  · simp only [go_sem,List.length_map,wo,wa,nr,nsC,wv]; simp
  · simp only [go_sem,List.length_map,wo,wa,nr,nsC,wv]; simp [sb,bw,swp,hget]
  · simp only [go_sem,List.length_map,wo,wa,nr,nsC,wv]; simp [hget]
  simp only [go_sem,List.length_map,wo,wa,nr,nsC,wv,f11,f21,f30]
  refine call_w [] (k:=904) (j:=905) (d4) (by decide) (by decide) (by decide) (by decide) (by first | rfl | simp [go_sem,slv_ids,List.length_map,wo,wa,nr,nsC,wv]) (by simp [go_sem,List.length_map,wo,wa,nr,nsC,wv]) (by rfl) (by rfl) (by rfl) ?_
  simp only [go_sem,List.length_map,wo,wa,nr,nsC,wv]
  exact pdone [] (by simp only [go_sem,List.length_map,wo,wa,nr,nsC,wv,slv_some]) (by first | rfl | simp [go_sem,slv_ids,List.length_map,wo,wa,nr,nsC,wv])
theorem w_enc111 (n:Ns) (hg:gdN n) (cc:PCalls Tryz.prog nX90 [.agg [.str n.m,.sl 2 (n.fs.map nm_),.sl 2 (n.ls.map lc_)]] (.int .i64 0)) (h1:n.m ≠ []) (h2:n.fs ≠ []) (h3:n.ls ≠ []):PCalls Tryz.prog nX72 [ns_ n] (.tup [.sl 1 ((bytesN n).map by_),.int .i64 0]):=by
  refine pfun_sound (ic:=FX72.body) mixed cX72 rfl rfl ?_
  have f11:(!(n.m == [])) = true:=by simp [h1]
  have f21:decide ((n.fs.length:Int) > 0) = true:=by have:=List.length_pos_iff.2 h2; simp; omega
  have f31:decide ((n.ls.length:Int) > 0) = true:=by have:=List.length_pos_iff.2 h3; simp; omega
  have a1:=encT_len hg.1
  have a2:=prt_len (b:=0) (x:=encT n.m) (by omega)
  have a3:=encN_len hg.2.1.2
  have a4:=prt_len (b:=1) (x:=encN n.fs) (by omega)
  have a5:=encLs_len hg.2.2.1 hg.2.2.2
  have a6:=prt_len (b:=2) (x:=encLs n.ls) (by omega)
  have hB:bytesN n = prt 0 (encT n.m) ++ prt 1 (encN n.fs) ++ prt 2 (encLs n.ls):=by rw [bytesN_pt]; simp [pt1,pt2,pt3,h1,h2,h3]
  have hl:(prt 0 (encT n.m) ++ prt 1 (encN n.fs) ++ prt 2 (encLs n.ls)).length ≤ 400000:=by rw [← hB]; exact bytesN_len hg
  have d4:=s_wdone true (prt 0 (encT n.m) ++ prt 1 (encN n.fs) ++ prt 2 (encLs n.ls)) 0 (by omega)
  rw [show wD true (prt 0 (encT n.m) ++ prt 1 (encN n.fs) ++ prt 2 (encLs n.ls)) 0 = (some (prt 0 (encT n.m) ++ prt 1 (encN n.fs) ++ prt 2 (encLs n.ls)),0) from rfl] at d4
  rw [hB]
  simp only [go_sem,List.length_map,wo,wa,nr,nsC,wv,FX72]
  refine call_same (cc) (by simp [go_sem,List.length_map,wo,wa,nr,nsC,wv]) ?_
  simp only [go_sem,List.length_map,wo,wa,nr,nsC,wv]
  refine call_wnew 904 905 (by decide) (by decide) (by decide) (by simp only [go_sem,List.length_map,wo,wa,nr,nsC,wv]) (by simp only [go_sem,List.length_map,wo,wa,nr,nsC,wv]) ?_
  simp only [go_sem,List.length_map,wo,wa,nr,nsC,wv,f11,f21,f31]
  have c1:=s_sub14 (by kernel_rfl) (wc_1 n hg) (by omega) 0 (l:=([]:List UInt8)) (by (try simp only [List.length_append]); (try simp only [List.length_nil]); omega)
  rw [List.nil_append] at c1
  refine ⟨by kernel_rfl,?_⟩
  refine call_obj (σ2:=[(904,wo 905 true (([]:List UInt8)) 0),(905,wa (([]:List UInt8))),(5,⟨61,1,[[.mp 904 3 0 0]],true⟩),(1,nr n)]) (r3:=.tup []) (σ3:=[(904,wo 905 true (prt 0 (encT n.m)) 0),(905,wa (prt 0 (encT n.m))),(5,⟨61,1,[[.mp 904 3 0 0]],true⟩),(1,nr n)]) c1 [(1000,904),(2000,905),(1001,5),(1002,1)] [905] rfl rfl rfl rfl ?_ ?_ ?_ ?_
  · simp only [go_sem,List.length_map,wo,wa,nr,nsC,wv]; simp
  · simp only [go_sem,List.length_map,wo,wa,nr,nsC,wv]; simp [sb,bw,swp,hget]
  · simp only [go_sem,List.length_map,wo,wa,nr,nsC,wv]; simp [hget]
  simp only [go_sem,List.length_map,wo,wa,nr,nsC,wv,f11,f21,f31]
  have c2:=s_sub14 (by kernel_rfl) (wc_2 n hg) (by omega) 1 (l:=prt 0 (encT n.m)) (by (try simp only [List.length_append]); (try simp only [List.length_nil]); omega)
  refine ⟨by kernel_rfl,?_⟩
  refine call_obj (σ2:=[(904,wo 905 true (prt 0 (encT n.m)) 0),(905,wa (prt 0 (encT n.m))),(5,⟨61,1,[[.mp 904 3 0 0]],true⟩),(1,nr n)]) (r3:=.tup []) (σ3:=[(904,wo 905 true (prt 0 (encT n.m) ++ prt 1 (encN n.fs)) 0),(905,wa (prt 0 (encT n.m) ++ prt 1 (encN n.fs))),(5,⟨61,1,[[.mp 904 3 0 0]],true⟩),(1,nr n)]) c2 [(1000,904),(2000,905),(1001,5),(1002,1)] [905] rfl rfl rfl rfl ?_ ?_ ?_ ?_
  · simp only [go_sem,List.length_map,wo,wa,nr,nsC,wv]; simp
  · simp only [go_sem,List.length_map,wo,wa,nr,nsC,wv]; simp [sb,bw,swp,hget]
  · simp only [go_sem,List.length_map,wo,wa,nr,nsC,wv]; simp [hget]
  simp only [go_sem,List.length_map,wo,wa,nr,nsC,wv,f11,f21,f31]
  have c3:=s_sub14 (by kernel_rfl) (wc_3 n hg) (by omega) 2 (l:=prt 0 (encT n.m) ++ prt 1 (encN n.fs)) (by (try simp only [List.length_append]); (try simp only [List.length_nil]); omega)
  refine ⟨by kernel_rfl,?_⟩
  refine call_obj (σ2:=[(904,wo 905 true (prt 0 (encT n.m) ++ prt 1 (encN n.fs)) 0),(905,wa (prt 0 (encT n.m) ++ prt 1 (encN n.fs))),(5,⟨61,1,[[.mp 904 3 0 0]],true⟩),(1,nr n)]) (r3:=.tup []) (σ3:=[(904,wo 905 true (prt 0 (encT n.m) ++ prt 1 (encN n.fs) ++ prt 2 (encLs n.ls)) 0),(905,wa (prt 0 (encT n.m) ++ prt 1 (encN n.fs) ++ prt 2 (encLs n.ls))),(5,⟨61,1,[[.mp 904 3 0 0]],true⟩),(1,nr n)]) c3 [(1000,904),(2000,905),(1001,5),(1002,1)] [905] rfl rfl rfl rfl ?_ ?_ ?_ ?_
  · simp only [go_sem,List.length_map,wo,wa,nr,nsC,wv]; simp
  · simp only [go_sem,List.length_map,wo,wa,nr,nsC,wv]; simp [sb,bw,swp,hget]
  · simp only [go_sem,List.length_map,wo,wa,nr,nsC,wv]; simp [hget]
  simp only [go_sem,List.length_map,wo,wa,nr,nsC,wv,f11,f21,f31]
  refine call_w [] (k:=904) (j:=905) (d4) (by decide) (by decide) (by decide) (by decide) (by first | rfl | simp [go_sem,slv_ids,List.length_map,wo,wa,nr,nsC,wv]) (by simp [go_sem,List.length_map,wo,wa,nr,nsC,wv]) (by rfl) (by rfl) (by rfl) ?_
  simp only [go_sem,List.length_map,wo,wa,nr,nsC,wv]
  exact pdone [] (by simp only [go_sem,List.length_map,wo,wa,nr,nsC,wv,slv_some]) (by first | rfl | simp [go_sem,slv_ids,List.length_map,wo,wa,nr,nsC,wv])
theorem s_encode (n:Ns) (hn:smN n):PCalls Tryz.prog nX72 [ns_ n] (.tup [.sl 1 ((encA n).1.map by_),.int .i64 (encA n).2]):=by
  have cc:=s_check n hn
  simp only [ns_e] at cc
  by_cases h:chk n = 0
  rotate_left
  · refine pfun_sound (ic:=FX72.body) mixed cX72 rfl rfl ?_
    rw [show encA n = ([],chk n) by unfold encA; rw [if_pos h]]
    simp only [go_sem,List.length_map,wo,wa,nr,nsC,wv,FX72]
    refine call_same (cc) (by simp [go_sem,List.length_map,wo,wa,nr,nsC,wv]) ?_
    simp only [go_sem,List.length_map,wo,wa,nr,nsC,wv,bne_t h]
    exact wpdone (Wk.nls _ 2 1 (by simp only [go_sem,List.length_map,wo,wa,nr,nsC,wv])) [] (by first | rfl | simp only [go_sem,List.length_map,wo,wa,nr,nsC,wv]) rfl
  obtain ⟨hg,_⟩:=chk_ok h
  rw [show encA n = (bytesN n,0) by unfold encA; rw [if_neg (by simp [h])]]
  rw [h] at cc
  by_cases h1:n.m = [] <;> by_cases h2:n.fs = [] <;> by_cases h3:n.ls = []
  · exact w_enc000 n hg cc h1 h2 h3
  · exact w_enc001 n hg cc h1 h2 h3
  · exact w_enc010 n hg cc h1 h2 h3
  · exact w_enc011 n hg cc h1 h2 h3
  · exact w_enc100 n hg cc h1 h2 h3
  · exact w_enc101 n hg cc h1 h2 h3
  · exact w_enc110 n hg cc h1 h2 h3
  · exact w_enc111 n hg cc h1 h2 h3
end Go.Proofs.YtoikbadfbneahaaGreatDoor
