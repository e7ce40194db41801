/-
  The reference: right types. Conditions: what is read; right headers.
  The reference: right types,however deep. Conditions: what is read; right headers.
  The reference: formals replaced,formals as types,parts. Conditions: what is read.
-/
import Derived.Test.YtaohbfnepjjdgaaGreatM19
import Derived.Test.YtaohbfnepjjdgaaGreatM12
set_option linter.unusedVariables false
set_option linter.unusedSimpArgs false
namespace Go.Hr
open Go Go.RowKit Go.Ck Go.Proofs Go.Proofs.YtaohbfnepjjdgaaGreat Fx
attribute [local irreducible] Go.Ck.Sub St Cd Xt Nx DrL LsW
section
variable {S T N R:Res} {v:Value} {F:List Fm} {l:KS} {s t:Kt}
def rcK (F:List Fm) (t:Kt):Kt:=if t.kind=3 then t else if t.kind=4∧(fidx F t.name).isSome=true then .mk 3 (boundOf F t.name) [] false false else .mk 0 [] [] false false
def rcB (F:List Fm) (t:Kt):Bool:=t.kind == 3 || (t.kind == 4 && (fidx F t.name).isSome)
theorem rc_no (h3:¬ t.kind=3) (h:((t.kind != 4) || decide (ixD (fidx F t.name)<0))=true):rcK F t = .mk 0 [] [] false false∧rcB F t=false:=by
 have h4:¬ (t.kind=4∧(fidx F t.name).isSome=true):=by
  rintro ⟨h4,h5⟩
  obtain ⟨i,hi⟩:=Option.isSome_iff_exists.1 h5
  rw [h4,hi] at h
  have:decide (ixD (some i)<0)=false:=decide_eq_false (by show ¬ (i:Int)<0; omega)
  rw [this] at h
  exact absurd h (by decide)
 refine ⟨by unfold rcK; rw [if_neg h3,if_neg h4],?_⟩
 unfold rcB
 rw [show (t.kind == 3)=false by simpa using h3,Bool.false_or,Bool.and_eq_false_iff]
 by_cases h5:t.kind=4
 ·right
  cases h6:(fidx F t.name).isSome with
  | false=>rfl
  | true=>exact absurd ⟨h5,h6⟩ h4
 ·left; simpa using h5
theorem rc_yes (h:((t.kind != 4) || decide (ixD (fidx F t.name)<0))=false):t.kind=4∧∃ (i:Nat) (hi:i<F.length),fidx F t.name=some i∧boundOf F t.name=F[i].bound:=by
 rw [Bool.or_eq_false_iff] at h
 have h4:t.kind=4:=by simpa using h.1
 cases hf:fidx F t.name with
 | none=>rw [hf] at h; exact absurd h.2 (by decide)
 | some i =>
  obtain ⟨hi,_⟩:=List.findIdx?_eq_some_iff_getElem.1 hf
  refine ⟨h4,i,hi,Z,?_⟩
  unfold boundOf
  rw [hf,Option.bind_some,List.getElem?_eq_getElem hi]; rfl
set_option maxRecDepth 100000 in
theorem classTypeR_ct {n0 d pv c2 fs ii : Value} {fa : Option Addr} {fc : Nat} (hrow : Row S 2 fmC (.slice fa F.length fc) F) {xa : Option Addr} {xn xc : Nat} :
  Reads Tryz.prog 70 #[.agg #[n0,d,.slice fa F.length fc,pv,c2,fs,ii],.agg (tyC t (.slice xa xn xc)).toArray] [S] (.tuple #[.agg (tyC (rcK F t) (ctV t (.slice xa xn xc))).toArray,.bool (rcB F t)]):=by
 by_cases h3:t.kind=3
 ·rw [show rcK F t=t from if_pos h3,show ctV t (.slice xa xn xc) = .slice xa xn xc from if_pos h3,show rcB F t=true by unfold rcB; rw [h3]; rfl]
  unfold tyC
  rw [h3]
  refine ct_of (n:=31) Tryz.func70 Z Z (len Z) fun hr w0=>?_
  refine cQ (st_bx Z Z fun b2=>?_)
  refine st_bx Z Z fun b3=>?_
  refine st_alc al25 fun b4=>?_
  refine sA Z (sK [2,3,4,5] Z (cS (cQ (sV (vF Z fa25_0 Z) (sV (vY Z ld3) ?_)))))
  refine sV (v_eql Z Z) (sK [2,3,4,5,9] Z (cd_true Z ?_))
  refine cQ (sV (v_ldn Z ld25 Z rds_pt) ?_)
  refine st_stoW Z Z sz25 Z Z ?_
  refine sA Z (sK [4,5] Z (cT (xR ?_)))
  exact xt_retV (.cellN Z ld25 Z slq (.tmp Z .nil)) ⟨Z,Z⟩ sbr
 ·rw [show ctV t (.slice xa xn xc) = .slice none 0 0 from if_neg h3]
  unfold tyC
  refine ct_of (n:=31) Tryz.func70 Z Z (len Z) fun hr w0=>?_
  refine cQ (st_bx Z Z fun b2=>?_)
  refine st_bx Z Z fun b3=>?_
  refine st_alc al25 fun b4=>?_
  refine sA Z (sK [2,3,4,5] Z (cS (cQ (sV (vF Z fa25_0 Z) (sV (vY Z ld3) ?_)))))
  refine sV (v_eql Z Z) (sK [2,3,4,5,9] Z ?_)
  rw [show (t.kind == 3)=false by simpa using h3]
  refine cd_false Z ?_
  refine cK (xT (cQ (sV (vF Z fa54_2 Z) (sV (vY Z ld48) ?_))))
  refine sV (vF Z fa25_1 Z) (sV (vY Z ld9) ?_)
  refine st_clr Z Z en66 Z (formalR_ct hrow t.name) ?_
  refine sA Z (sK [2,3,4,5,6] Z (cS (cQ (sV (vF Z fa25_0 Z) (sV (vY Z ld3) ?_)))))
  refine sV (v_neq Z Z) (sM Z (st_cut (k:=7) (d:=22) (v:=.bool ((t.kind != 4) || decide (ixD (fidx F t.name)<0))) (fun hcut=>bool_want (b:=(t.kind != 4)) false (fun hg=>?_) (fun hg=>?_)) ?_))
  ·refine st_sk Z Z hg ?_
   refine st_sk Z Z hg ?_
   refine sV (vQ (bO Z hg) Z) ?_
   exact hcut _ uG
  ·refine sG Z (bG Z hg) (vM Z) (sG Z (bG Z hg) (v_lss Z Z) (sV (vP (bO Z hg) Z) ?_))
   exact hcut _ uG
  refine sK [2,4,5,6,22] Z (cC Z (fun hb=>?_) (fun hb=>?_))
  ·have hb:((t.kind != 4) || decide (ixD (fidx F t.name)<0))=true:=hb
   rw [(rc_no h3 hb).1,(rc_no h3 hb).2]
   refine cQ (sV (v_build (cells:=[.int .i64 0,sv [],.slice none 0 0,.bool false,.bool false]) Z (fun _=>by kernel_rfl)) ?_)
   refine st_stoW Z Z sz25 Z Z ?_
   refine sA Z (sK [4,5] Z (cT (xR ?_)))
   exact xt_retV (.cellN Z ld25 Z slq (.tmp Z .nil)) ⟨Z,Z⟩ sbr
  ·have hb:((t.kind != 4) || decide (ixD (fidx F t.name)<0))=false:=hb
   obtain ⟨h4,i,hi,hf,hbd⟩:=rc_yes hb
   rw [show rcK F t = .mk 3 (boundOf F t.name) [] false false by unfold rcK; rw [if_neg h3,if_pos ⟨h4,by rw [hf]; rfl⟩],show rcB F t=true by unfold rcB; rw [h4,hf]; rfl,hbd]
   obtain ⟨b,o,cap2,e1,hrd⟩:=fm_at hrow (List.getElem?_eq_getElem hi)
   cases e1
   unfold fmA at hrd
   rw [hf]
   refine cK (xT (cQ (sV (vF Z fa54_2 Z) (sV (vY Z ld48) ?_))))
   refine sM Z (sV (vI (k:=i) Z Z sl48 Z hi Z) (sV (vF Z fa94_1 Z) (sV (vY Z ld9) ?_)))
   refine sV (v_build (cells:=[.int .i64 3,sv F[i].bound,.slice none 0 0,.bool false,.bool false]) Z (fun _=>by kernel_rfl)) ?_
   refine st_stoW Z Z sz25 Z Z ?_
   refine sA Z (sK [4,5] Z (cT ?_))
   exact xt_retV (.cellN Z ld25 Z slq (.tmp Z .nil)) ⟨Z,Z⟩ sbr
def bndR (l:KS) (F:List Fm) (t:Kt) (b:Nm):Bool:=if (b == root)=true then true else if (!rcB F t || ((rcK F t).name == root))=true then false else (rightE (ksys l) [(rcK F t).name,b] == 0) && (decide (rightE (ksys l) [(rcK F t).name,b]=0) && has (ksys l) (rcK F t).name b)
set_option maxRecDepth 100000 in
theorem bounded_ct (hv : ksysR S v l) (hl : l.length ≤ 1000000) {n0 d pv c2 fs ii : Value} {fa : Option Addr} {fc : Nat} (hrow : Row S 2 fmC (.slice fa F.length fc) F) {xa : Option Addr} {xn xc : Nat} (b : Nm) :
  Reads Tryz.prog 89 #[v,.agg #[n0,d,.slice fa F.length fc,pv,c2,fs,ii],.agg (tyC t (.slice xa xn xc)).toArray,sv b] [S] (.bool (bndR l F t b)):=by
 have hcl := @classTypeR_ct S F t n0 d pv c2 fs ii fa fc hrow xa xn xc
 have his:=fun c=>IsS_ct hv.sys (by simpa [ksys] using hl) c b
 obtain ⟨va,vc,rfl,_⟩:=id hv
 obtain ⟨ya,yn,yc,hcv⟩:∃ ya yn yc,ctV t (.slice xa xn xc) = .slice ya yn yc:=by
  unfold ctV
  split
  ·exact ⟨_,_,_,Z⟩
  ·exact ⟨_,_,_,Z⟩
 rw [hcv] at hcl
 unfold bndR
 unfold tyC at hcl ⊢
 generalize rcK F t=k at *
 generalize rcB F t=kb at *
 refine ct_of (n:=39) Tryz.func89 Z Z (len Z) fun hr w0=>?_
 refine cQ (st_bx Z Z fun b5=>?_)
 refine st_bx Z Z fun b6=>?_
 refine sA Z (sK [0,3,5,6,8] Z (cS (cQ (sM Z (sV (v_seql Z Z) (sK [0,3,5,6,8,13] Z (cC Z (fun h1=>?_) (fun h1=>?_))))))))
 ·rw [if_pos (show (b == root)=true from h1)]
  refine cQ (sA Z (sK [8] Z (cT (xR ?_))))
  exact xt_rt Z ⟨Z,Z⟩ sbq
 ·rw [if_neg (by rw [show (b == root)=false from h1]; decide)]
  refine cK (xT (cQ (sV (v_ldn Z ld54 Z rds_pt) ?_)))
  refine sV (v_ldn Z ld25 Z rds_pt) ?_
  refine st_clr Z Z en70 Z (hcl) ?_
  refine sM Z (sV (v_extract Z Z) (sV (v_extract Z Z) (st_alc al25 fun b9=>?_)))
  refine st_stoW Z Z sz25 Z Z ?_
  refine sA Z (sK [0,3,8,9,10] Z (cS (cQ (sM Z (sV (v_not Z) (sM Z (st_cut (k:=7) (d:=26) (v:=.bool (!kb || (k.name == root))) (fun hcut=>bool_want (b:=(!kb)) false (fun hg=>?_) (fun hg=>?_)) ?_)))))))
  ·refine st_sk Z Z hg ?_
   iterate 2 refine st_sk rfl rfl hg ?_
   refine sV (vQ (bO Z hg) Z) ?_
   exact hcut _ uG
  ·refine sG Z (bG Z hg) (vF Z fa25_1 Z) (sG Z (bG Z hg) (vY Z ld9) ?_)
   refine sG Z (bG Z hg) (v_seql Z Z) (sV (vP (bO Z hg) Z) ?_)
   exact hcut _ uG
  refine sK [0,3,8,9,26] Z (cC Z (fun h2=>?_) (fun h2=>?_))
  ·rw [if_pos (show (!kb || (k.name == root))=true from h2)]
   refine cQ (sA Z (sK [8] Z (cT (xR ?_))))
   exact xt_rt Z ⟨Z,Z⟩ sbq
  ·rw [if_neg (by rw [show (!kb || (k.name == root))=false from h2]; decide)]
   refine cK (xT (cQ (sM Z (sV (vF Z fa25_1 Z) (sV (vY Z ld9) ?_)))))
   refine sM Z (st_clr Z Z en144 Z (his k.name) ?_)
   refine st_alc al187 fun b11=>?_
   refine st_stoW Z Z sz187 Z Z ?_
   refine sK [8,11] Z (cQ (sV (vF Z fa187_1 Z) (sV (vY Z ld29) ?_)))
   refine sV (v_eql Z Z) (sM Z (st_cut (k:=7) (d:=38) (v:=.bool ((rightE (ksys l) [k.name,b] == 0) && (decide (rightE (ksys l) [k.name,b]=0) && has (ksys l) k.name b))) (fun hcut=>bool_want (b:=(rightE (ksys l) [k.name,b] == 0)) true (fun hg=>?_) (fun hg=>?_)) ?_))
   ·refine st_sk Z Z hg ?_
    refine st_sk Z Z hg ?_
    refine sV (vP (bO Z hg) Z) ?_
    exact hcut _ uG
   ·refine sG Z (bG Z hg) (vF Z fa187_0 Z) (sG Z (bG Z hg) (vY Z ld4) ?_)
    refine sV (vQ (bO Z hg) Z) ?_
    exact hcut _ uG
   refine sA Z (sK [8] Z (cT ?_))
   exact xt_rt Z ⟨Z,Z⟩ sbq
theorem bndR_under (h : HRight l) {x : KC} (hx : x ∈ l) (hs : t.inner l x.formals = 0) (hn : isNmd t = true) {b : Nm} (hb : b = root ∨ isC (ksys l) b = true) : bndR l x.formals t b = under l (ctName x.formals t) b := by
 have hnm : (rcK x.formals t).name = ctName x.formals t ∧ rcB x.formals t = true := by
  obtain ⟨k,n,az,w,z⟩:=t
  rcases nmd_iff.1 hn with h3 | h4
  ·simp only [Kt.kind] at h3
   subst h3
   exact ⟨Z,Z⟩
  ·simp only [Kt.kind] at h4
   subst h4
   obtain ⟨_,_,i,h1,h2⟩:=inner_formal hs
   have hf:(fidx x.formals n).isSome=true:=by rw [h1]; rfl
   refine ⟨?_,?_⟩
   ·unfold rcK ctName
    show (if (4:Int)=3 then _ else if (4:Int)=4∧(fidx x.formals n).isSome=true then _ else _:Kt).name=if (4:Int)=4 then _ else _
    rw [if_neg (by decide),if_pos ⟨rfl,hf⟩,if_pos rfl]; rfl
   ·show ((4:Int) == 3 || ((4:Int) == 4 && (fidx x.formals n).isSome))=true
    rw [hf]; rfl
 unfold bndR
 rw [hnm.1,hnm.2]
 unfold under
 by_cases h1:b=root
 ·subst h1; simp
 ·have hb := hb.resolve_left h1
  rw [if_neg (by simpa using h1),show (b == root)=false by simpa using h1,Bool.false_or,Bool.not_true,Bool.false_or]
  by_cases h2:ctName x.formals t=root
  ·rw [h2]; simp
  ·rw [if_neg (by simpa using h2)]
   have hc:isC (ksys l) (ctName x.formals t)=true:=by
    rcases h.ct hx hs hn with ⟨g,_⟩ | ⟨y,hy,_⟩
    ·exact absurd g h2
    ·rw [← kfind_isC,hy]; rfl
   have hr:rightE (ksys l) [ctName x.formals t,b]=0:=rightE_zero.2 ⟨h.right,fun n hn=>by
    rcases List.mem_cons.1 hn with rfl | hn
    ·exact hc
    ·simp at hn; subst hn; exact hb⟩
   rw [hr,show (ctName x.formals t != root)=true by simpa using h2]
   simp
theorem argument_of (h : HRight l) (hv : ksysR S v l) {x : KC} (hx : x ∈ l) {n0 d pv c2 fs ii : Value} {fa : Option Addr} {fc : Nat} (hrow : Row S 2 fmC (.slice fa x.formals.length fc) x.formals) {xa : Option Addr} {xn xc : Nat} {b : Nm} (hb : b = root ∨ isC (ksys l) b = true)
  (hI:Reads Tryz.prog 88 #[v,.agg #[n0,d,.slice fa x.formals.length fc,pv,c2,fs,ii],.agg (tyC t (.slice xa xn xc)).toArray] [S] (.int .i64 (t.inner l x.formals))) :
  Reads Tryz.prog 50 #[v,.agg #[n0,d,.slice fa x.formals.length fc,pv,c2,fs,ii],.agg (tyC t (.slice xa xn xc)).toArray,sv b] [S] (.int .i64 (actE l x.formals t b)):=by
 have hl:l.length≤1000000:=by
  have:=h.right.len
  simp only [ksys,List.length_map] at this; omega
 have hbo := @bounded_ct S v x.formals l t hv hl n0 d pv c2 fs ii fa fc hrow xa xn xc b
 have hI2:=hI
 obtain ⟨va,vc,rfl,_⟩:=id hv
 unfold tyC at hI2 hbo ⊢
 refine ct_of (n:=41) Tryz.func50 Z Z (len Z) fun hr w0=>?_
 refine cQ (st_bx Z Z fun b5=>?_)
 refine st_bx Z Z fun b6=>?_
 refine sA Z (sK [0,3,5,6,8] Z (cS (cQ (sV (vF Z fa25_0 Z) (sV (vY Z ld3) ?_)))))
 refine sV (v_neq Z Z) (sM Z (st_cut (k:=8) (d:=17) (v:=.bool ((t.kind != 3) && (t.kind != 4))) (fun hcut=>bool_want (b:=(t.kind != 3)) true (fun hg=>?_) (fun hg=>?_)) ?_))
 ·refine st_sk Z Z hg ?_
  iterate 2 refine st_sk rfl rfl hg ?_
  refine sV (vP (bO Z hg) Z) ?_
  exact hcut _ uG
 ·refine sG Z (bG Z hg) (vF Z fa25_0 Z) (sG Z (bG Z hg) (vY Z ld3) ?_)
  refine sG Z (bG Z hg) (v_neq Z Z) (sV (vQ (bO Z hg) Z) ?_)
  exact hcut _ uG
 refine sM Z (st_cut (k:=12) (d:=21) (v:=.bool (((t.kind != 3) && (t.kind != 4)) || t.void)) (fun hcut=>bool_want (b:=((t.kind != 3) && (t.kind != 4))) false (fun hg=>?_) (fun hg=>?_)) ?_)
 ·refine st_sk Z Z hg ?_
  refine st_sk Z Z hg ?_
  refine sV (vQ (bO Z hg) Z) ?_
  exact hcut _ uG
 ·refine sG Z (bG Z hg) (vF Z fa25_3 Z) (sG Z (bG Z hg) (vY Z ld4) ?_)
  refine sV (vP (bO Z hg) Z) ?_
  exact hcut _ uG
 refine sM Z (st_cut (k:=16) (d:=25) (v:=.bool ((((t.kind != 3) && (t.kind != 4)) || t.void) || t.sep)) (fun hcut=>bool_want (b:=(((t.kind != 3) && (t.kind != 4)) || t.void)) false (fun hg=>?_) (fun hg=>?_)) ?_)
 ·refine st_sk Z Z hg ?_
  refine st_sk Z Z hg ?_
  refine sV (vQ (bO Z hg) Z) ?_
  exact hcut _ uG
 ·refine sG Z (bG Z hg) (vF Z fa25_4 Z) (sG Z (bG Z hg) (vY Z ld4) ?_)
  refine sV (vP (bO Z hg) Z) ?_
  exact hcut _ uG
 refine sK [0,3,5,6,8,25] Z (cC Z (fun h1=>?_) (fun h1=>?_))
 ·have h1:((((t.kind != 3) && (t.kind != 4)) || t.void) || t.sep)=true:=h1
  rw [actE_one (show ((isNmd t && !t.void) && !t.sep)=false by
   rw [← Bool.not_eq_true',← h1]; unfold isNmd bne; simp only [Bool.not_and,Bool.not_or,Bool.not_not])]
  refine cQ (sA Z (sK [8] Z (cT (xR ?_))))
  exact xt_rt Z ⟨Z,Z⟩ sbq
 ·have h1:((((t.kind != 3) && (t.kind != 4)) || t.void) || t.sep)=false:=h1
  have h2:((isNmd t && !t.void) && !t.sep)=true:=by
   rw [← Bool.not_eq_false',← h1]; unfold isNmd bne; simp only [Bool.not_and,Bool.not_or,Bool.not_not]
  have hn:isNmd t=true:=by simp only [Bool.and_eq_true] at h2; exact h2.1.1
  rw [actE_two h2]
  refine cK (xT (cQ (sM Z (sV (v_ldn Z ld54 Z rds_pt) ?_))))
  refine sV (v_ldn Z ld25 Z rds_pt) ?_
  refine st_clr Z Z en88 Z (hI2) ?_
  refine sA Z (sK [0,3,5,6,8,9] Z (cS (cQ (sM Z (sV (v_eql Z Z) (sM Z (st_cut (k:=10) (d:=39) (v:=.bool ((t.inner l x.formals == 0) && !(bndR l x.formals t b))) (fun hcut=>bool_want (b:=(t.inner l x.formals == 0)) true (fun hg=>?_) (fun hg=>?_)) ?_)))))))
  ·refine st_sk Z Z hg ?_
   iterate 5 refine st_sk rfl rfl hg ?_
   refine sV (vP (bO Z hg) Z) ?_
   exact hcut _ uG
  ·refine sG Z (bG Z hg) (vM Z) (sG Z (bG Z hg) (v_ldn Z ld54 Z rds_pt) ?_)
   refine sG Z (bG Z hg) (v_ldn Z ld25 Z rds_pt) ?_
   refine sG Z (bG Z hg) (vM Z) (st_clrg Z (bG Z hg) Z Z en89 Z (hbo) ?_)
   refine sG Z (bG Z hg) (v_not Z) (sV (vQ (bO Z hg) Z) ?_)
   exact hcut _ uG
  refine sK [8,9,39] Z (cC Z (fun h3=>?_) (fun h3=>?_))
  ·have h3:((t.inner l x.formals == 0) && !(bndR l x.formals t b))=true:=h3
   rw [Bool.and_eq_true] at h3
   have hz:t.inner l x.formals=0:=eq_of_beq h3.1
   rw [bndR_under h hx hz hn hb,Bool.not_eq_true'] at h3
   rw [if_neg (by simpa using hz),if_pos h3.2]
   refine cR (sA Z (sK [8,9] Z (cQ (sM Z (sA Z (sK [8] Z (cT ?_)))))))
   exact xt_rt Z ⟨Z,Z⟩ sbq
  ·have h3:((t.inner l x.formals == 0) && !(bndR l x.formals t b))=false:=h3
   have hr:(if t.inner l x.formals≠0 then t.inner l x.formals else if under l (ctName x.formals t) b=false then 8 else 0)=t.inner l x.formals:=by
    by_cases hz:t.inner l x.formals=0
    ·rw [if_neg (by simpa using hz),hz]
     rw [hz,bndR_under h hx hz hn hb] at h3
     rw [if_neg]
     intro e; rw [e] at h3; exact absurd h3 (by decide)
    ·rw [if_pos hz]
   rw [hr]
   refine cK (xT (cQ (sM Z (sA Z (sK [8] Z (cT ?_))))))
   exact xt_rt Z ⟨Z,Z⟩ sbq
end
end Go.Hr
namespace Go.Hr
open Go Go.RowKit Go.Ck Go.Proofs Go.Proofs.YtaohbfnepjjdgaaGreat Fx
attribute [local irreducible] Go.Ck.Sub St Cd Xt Nx DrL LsW
section
variable {S T N R:Res} {v:Value} {F:List Fm} {l:KS} {s t:Kt}
theorem kidx_find (l:KS) (n:Nm):(kidx l n=none∧kfind l n=none)∨∃ k,kidx l n=some k∧∃ hk:k<l.length,kfind l n=some l[k]:=by
 unfold kidx kfind
 cases h:l.findIdx? fun x=>x.name == n with
 | none =>
  refine .inl ⟨Z,?_⟩
  rw [List.findIdx?_eq_none_iff] at h
  exact List.find?_eq_none.2 fun x hx=>by rw [h x hx]; decide
 | some k =>
  obtain ⟨hk,h1,h2⟩:=List.findIdx?_eq_some_iff_getElem.1 h
  exact .inr ⟨k,Z,hk,List.find?_eq_some_iff_getElem.2 ⟨h1,k,hk,Z,fun j hj=>by simpa using h2 j hj⟩⟩
theorem low_or {n:Nm} {az:List Kt} {w z:Bool}:(((n == [] && ((az.length:Int) == 0)) && !w) && !z) = !((((n != []) || decide (0<(az.length:Int))) || w) || z):=by
 have:((az.length:Int) == 0) = !decide (0<(az.length:Int)):=by
  cases az with
  | nil=>rfl
  | cons a t=>rw [show decide (0<((a::t).length:Int))=true by apply decide_eq_true; simp]; rfl
 rw [this]
 unfold bne
 simp only [Bool.not_or,Bool.not_not]
theorem fml_or {az:List Kt} {z:Bool}:(((az.length:Int) == 0) && !z) = !(decide (0<(az.length:Int)) || z):=by
 have:((az.length:Int) == 0) = !decide (0<(az.length:Int)):=by
  cases az with
  | nil=>rfl
  | cons a t=>rw [show decide (0<((a::t).length:Int))=true by apply decide_eq_true; simp]; rfl
 rw [this,Bool.not_or]
theorem fmAt_ix {n:Nm}:(fmAt F n).isSome = !decide (ixD (fidx F n)<0):=by
 cases h:fidx F n with
 | none=>rw [fmAt_none h]; rfl
 | some i =>
  obtain ⟨_,h2⟩:=fidx_at h
  rw [h2,show decide (ixD (some i)<0)=false from decide_eq_false (by show ¬ (i:Int)<0; omega)]; rfl
set_option maxHeartbeats 4000000 in
theorem rightR_go (h : HRight l) (hv : ksysR S v l) {x : KC} (hx : x ∈ l) {n0 d pv c2 fs ii : Value} {fa : Option Addr} {fc : Nat} (hrow : Row S 2 fmC (.slice fa x.formals.length fc) x.formals) : ∀ (D : Nat) (t : Kt) (y : Value), t.depth ≤ D → Tys S y t.args →
  Reads Tryz.prog 88 #[v,.agg #[n0,d,.slice fa x.formals.length fc,pv,c2,fs,ii],.agg (tyC t y).toArray] [S] (.int .i64 (t.inner l x.formals)):=by
 intro D
 induction D with
 | zero=>intro t y hd; cases t; simp [Kt.depth] at hd
 | succ D ih =>
  rintro ⟨k,n,az,w,z⟩ y hd hy
  have hy:Tys S y az:=hy
  have hF:∀ a∈az,∀ y,Tys S y a.args→Reads Tryz.prog 88 #[v,.agg #[n0,d,.slice fa x.formals.length fc,pv,c2,fs,ii],.agg (tyC a y).toArray] [S] (.int .i64 (a.inner l x.formals)):=fun a ha y hy=>ih a y (by have:=depth_args (t:=.mk k n az w z) ha; omega) hy
  clear ih hd
  have hml:maxLen=9223372036854775807:=rfl
  obtain ⟨xa,xc,rfl,hlc,hcm,_⟩:=hy.form
  show Reads _ _ #[_,_,.agg #[.int .i64 k,sv n,.slice xa az.length xc,.bool w,.bool z]] _ _
  obtain ⟨va,vc,rfl,hlcv,hcmv,_⟩:=id hv
  by_cases hk:k=0∨k=1∨k=2
  ·rw [inner_low hk, low_or]
   rcases hk with rfl | rfl | rfl
   ·refine ct_of (n:=98) Tryz.func88 Z Z (len Z) fun hr w0=>?_
    refine cQ (st_bx Z Z fun b4=>?_)
    refine st_bx Z Z fun b5=>?_
    refine sA Z (sK [0,4,5,6] Z (cS (cQ (sV (vF Z fa25_0 Z) (sV (vY Z ld3) ?_)))))
    refine sK [0,4,5,6,12] Z (cB (cS (cQ (sV (v_eql Z Z) (sA Z (sK [0,4,5,6,12,13] Z (cd_false Z ?_)))))))
    refine cQ (sV (v_eql Z Z) (sA Z (sK [0,4,5,6,12,13] Z (cd_false Z ?_))))
    refine cR (sV (v_eql Z Z) (sA Z (sK [0,4,5,6,12,13] Z (cd_true Z ?_))))
    refine cS (cQ (sV (vF Z fa25_1 Z) (sV (vY Z ld9) ?_)))
    refine sV (v_sneq Z Z) (sM Z (st_cut (k:=9) (d:=25) (v:=.bool ((n != []) || decide (0<(az.length:Int)))) (fun hcut=>bool_want (b:=(n != [])) false (fun hg=>?_) (fun hg=>?_)) ?_))
    ·refine st_sk Z Z hg ?_
     iterate 3 refine st_sk rfl rfl hg ?_
     refine sV (vQ (bO Z hg) Z) ?_
     exact hcut _ uG
    ·refine sG Z (bG Z hg) (vF Z fa25_2 Z) (sG Z (bG Z hg) (vY Z ld23) ?_)
     refine sG Z (bG Z hg) (v_len Z Tryz.underlying23) (sG Z (bG Z hg) (v_gtr Z Z) (sV (vP (bO Z hg) Z) ?_))
     exact hcut _ uG
    refine sM Z (st_cut (k:=13) (d:=29) (v:=.bool (((n != []) || decide (0<(az.length:Int))) || w)) (fun hcut=>bool_want (b:=((n != []) || decide (0<(az.length:Int)))) false (fun hg=>?_) (fun hg=>?_)) ?_)
    ·refine st_sk Z Z hg ?_
     refine st_sk Z Z hg ?_
     refine sV (vQ (bO Z hg) Z) ?_
     exact hcut _ uG
    ·refine sG Z (bG Z hg) (vF Z fa25_3 Z) (sG Z (bG Z hg) (vY Z ld4) ?_)
     refine sV (vP (bO Z hg) Z) ?_
     exact hcut _ uG
    refine sM Z (st_cut (k:=17) (d:=33) (v:=.bool ((((n != []) || decide (0<(az.length:Int))) || w) || z)) (fun hcut=>bool_want (b:=(((n != []) || decide (0<(az.length:Int))) || w)) false (fun hg=>?_) (fun hg=>?_)) ?_)
    ·refine st_sk Z Z hg ?_
     refine st_sk Z Z hg ?_
     refine sV (vQ (bO Z hg) Z) ?_
     exact hcut _ uG
    ·refine sG Z (bG Z hg) (vF Z fa25_4 Z) (sG Z (bG Z hg) (vY Z ld4) ?_)
     refine sV (vP (bO Z hg) Z) ?_
     exact hcut _ uG
    refine sK [6,33] Z (cC Z (fun hb=>?_) (fun hb=>?_))
    ·rw [show ((((n != []) || decide (0<(az.length:Int))) || w) || z)=true from hb]
     refine cQ (sA Z (sK [6] Z (cT (xR (xW (xR ?_))))))
     exact xt_rt Z ⟨Z,Z⟩ sbq
    ·rw [show ((((n != []) || decide (0<(az.length:Int))) || w) || z)=false from hb]
     refine cK (xT (cQ (sA Z (sK [6] Z (cT (xW (xR ?_)))))))
     exact xt_rt Z ⟨Z,Z⟩ sbq
   ·refine ct_of (n:=98) Tryz.func88 Z Z (len Z) fun hr w0=>?_
    refine cQ (st_bx Z Z fun b4=>?_)
    refine st_bx Z Z fun b5=>?_
    refine sA Z (sK [0,4,5,6] Z (cS (cQ (sV (vF Z fa25_0 Z) (sV (vY Z ld3) ?_)))))
    refine sK [0,4,5,6,12] Z (cB (cS (cQ (sV (v_eql Z Z) (sA Z (sK [0,4,5,6,12,13] Z (cd_true Z ?_)))))))
    refine cK (xT (cd_true Z ?_))
    refine cS (cQ (sV (vF Z fa25_1 Z) (sV (vY Z ld9) ?_)))
    refine sV (v_sneq Z Z) (sM Z (st_cut (k:=9) (d:=25) (v:=.bool ((n != []) || decide (0<(az.length:Int)))) (fun hcut=>bool_want (b:=(n != [])) false (fun hg=>?_) (fun hg=>?_)) ?_))
    ·refine st_sk Z Z hg ?_
     iterate 3 refine st_sk rfl rfl hg ?_
     refine sV (vQ (bO Z hg) Z) ?_
     exact hcut _ uG
    ·refine sG Z (bG Z hg) (vF Z fa25_2 Z) (sG Z (bG Z hg) (vY Z ld23) ?_)
     refine sG Z (bG Z hg) (v_len Z Tryz.underlying23) (sG Z (bG Z hg) (v_gtr Z Z) (sV (vP (bO Z hg) Z) ?_))
     exact hcut _ uG
    refine sM Z (st_cut (k:=13) (d:=29) (v:=.bool (((n != []) || decide (0<(az.length:Int))) || w)) (fun hcut=>bool_want (b:=((n != []) || decide (0<(az.length:Int)))) false (fun hg=>?_) (fun hg=>?_)) ?_)
    ·refine st_sk Z Z hg ?_
     refine st_sk Z Z hg ?_
     refine sV (vQ (bO Z hg) Z) ?_
     exact hcut _ uG
    ·refine sG Z (bG Z hg) (vF Z fa25_3 Z) (sG Z (bG Z hg) (vY Z ld4) ?_)
     refine sV (vP (bO Z hg) Z) ?_
     exact hcut _ uG
    refine sM Z (st_cut (k:=17) (d:=33) (v:=.bool ((((n != []) || decide (0<(az.length:Int))) || w) || z)) (fun hcut=>bool_want (b:=(((n != []) || decide (0<(az.length:Int))) || w)) false (fun hg=>?_) (fun hg=>?_)) ?_)
    ·refine st_sk Z Z hg ?_
     refine st_sk Z Z hg ?_
     refine sV (vQ (bO Z hg) Z) ?_
     exact hcut _ uG
    ·refine sG Z (bG Z hg) (vF Z fa25_4 Z) (sG Z (bG Z hg) (vY Z ld4) ?_)
     refine sV (vP (bO Z hg) Z) ?_
     exact hcut _ uG
    refine sK [6,33] Z (cC Z (fun hb=>?_) (fun hb=>?_))
    ·rw [show ((((n != []) || decide (0<(az.length:Int))) || w) || z)=true from hb]
     refine cQ (sA Z (sK [6] Z (cT (xR (xW (xR ?_))))))
     exact xt_rt Z ⟨Z,Z⟩ sbq
    ·rw [show ((((n != []) || decide (0<(az.length:Int))) || w) || z)=false from hb]
     refine cK (xT (cQ (sA Z (sK [6] Z (cT (xW (xR ?_)))))))
     exact xt_rt Z ⟨Z,Z⟩ sbq
   ·refine ct_of (n:=98) Tryz.func88 Z Z (len Z) fun hr w0=>?_
    refine cQ (st_bx Z Z fun b4=>?_)
    refine st_bx Z Z fun b5=>?_
    refine sA Z (sK [0,4,5,6] Z (cS (cQ (sV (vF Z fa25_0 Z) (sV (vY Z ld3) ?_)))))
    refine sK [0,4,5,6,12] Z (cB (cS (cQ (sV (v_eql Z Z) (sA Z (sK [0,4,5,6,12,13] Z (cd_false Z ?_)))))))
    refine cQ (sV (v_eql Z Z) (sA Z (sK [0,4,5,6,12,13] Z (cd_true Z ?_))))
    refine cK (xT (cd_true Z ?_))
    refine cS (cQ (sV (vF Z fa25_1 Z) (sV (vY Z ld9) ?_)))
    refine sV (v_sneq Z Z) (sM Z (st_cut (k:=9) (d:=25) (v:=.bool ((n != []) || decide (0<(az.length:Int)))) (fun hcut=>bool_want (b:=(n != [])) false (fun hg=>?_) (fun hg=>?_)) ?_))
    ·refine st_sk Z Z hg ?_
     iterate 3 refine st_sk rfl rfl hg ?_
     refine sV (vQ (bO Z hg) Z) ?_
     exact hcut _ uG
    ·refine sG Z (bG Z hg) (vF Z fa25_2 Z) (sG Z (bG Z hg) (vY Z ld23) ?_)
     refine sG Z (bG Z hg) (v_len Z Tryz.underlying23) (sG Z (bG Z hg) (v_gtr Z Z) (sV (vP (bO Z hg) Z) ?_))
     exact hcut _ uG
    refine sM Z (st_cut (k:=13) (d:=29) (v:=.bool (((n != []) || decide (0<(az.length:Int))) || w)) (fun hcut=>bool_want (b:=((n != []) || decide (0<(az.length:Int)))) false (fun hg=>?_) (fun hg=>?_)) ?_)
    ·refine st_sk Z Z hg ?_
     refine st_sk Z Z hg ?_
     refine sV (vQ (bO Z hg) Z) ?_
     exact hcut _ uG
    ·refine sG Z (bG Z hg) (vF Z fa25_3 Z) (sG Z (bG Z hg) (vY Z ld4) ?_)
     refine sV (vP (bO Z hg) Z) ?_
     exact hcut _ uG
    refine sM Z (st_cut (k:=17) (d:=33) (v:=.bool ((((n != []) || decide (0<(az.length:Int))) || w) || z)) (fun hcut=>bool_want (b:=(((n != []) || decide (0<(az.length:Int))) || w)) false (fun hg=>?_) (fun hg=>?_)) ?_)
    ·refine st_sk Z Z hg ?_
     refine st_sk Z Z hg ?_
     refine sV (vQ (bO Z hg) Z) ?_
     exact hcut _ uG
    ·refine sG Z (bG Z hg) (vF Z fa25_4 Z) (sG Z (bG Z hg) (vY Z ld4) ?_)
     refine sV (vP (bO Z hg) Z) ?_
     exact hcut _ uG
    refine sK [6,33] Z (cC Z (fun hb=>?_) (fun hb=>?_))
    ·rw [show ((((n != []) || decide (0<(az.length:Int))) || w) || z)=true from hb]
     refine cQ (sA Z (sK [6] Z (cT (xR (xW (xR ?_))))))
     exact xt_rt Z ⟨Z,Z⟩ sbq
    ·rw [show ((((n != []) || decide (0<(az.length:Int))) || w) || z)=false from hb]
     refine cK (xT (cQ (sA Z (sK [6] Z (cT (xW (xR ?_)))))))
     exact xt_rt Z ⟨Z,Z⟩ sbq
  ·by_cases h4 : k = 4
   ·subst h4
    rw [inner_fml,fml_or]
    refine ct_of (n:=98) Tryz.func88 Z Z (len Z) fun hr w0=>?_
    refine cQ (st_bx Z Z fun b4=>?_)
    refine st_bx Z Z fun b5=>?_
    refine sA Z (sK [0,4,5,6] Z (cS (cQ (sV (vF Z fa25_0 Z) (sV (vY Z ld3) ?_)))))
    refine sK [0,4,5,6,12] Z (cB (cS (cQ (sV (v_eql Z Z) (sA Z (sK [0,4,5,6,12,13] Z (cd_false Z ?_)))))))
    refine cQ (sV (v_eql Z Z) (sA Z (sK [0,4,5,6,12,13] Z (cd_false Z ?_))))
    refine cR (sV (v_eql Z Z) (sA Z (sK [0,4,5,6,12,13] Z (cd_false Z ?_))))
    refine cQ (sV (v_eql Z Z) (sA Z (sK [0,4,5,6,12,34] Z (cd_true Z ?_))))
    refine cS (cQ (sV (vF Z fa25_2 Z) (sV (vY Z ld23) ?_)))
    refine sV (v_len Z Tryz.underlying23) (sV (v_gtr Z Z) (sM Z (st_cut (k:=8) (d:=43) (v:=.bool (decide (0<(az.length:Int)) || z)) (fun hcut=>bool_want (b:=decide (0<(az.length:Int))) false (fun hg=>?_) (fun hg=>?_)) ?_)))
    ·refine st_sk Z Z hg ?_
     refine st_sk Z Z hg ?_
     refine sV (vQ (bO Z hg) Z) ?_
     exact hcut _ uG
    ·refine sG Z (bG Z hg) (vF Z fa25_4 Z) (sG Z (bG Z hg) (vY Z ld4) ?_)
     refine sV (vP (bO Z hg) Z) ?_
     exact hcut _ uG
    refine sK [4,5,6,43] Z (cC Z (fun hb=>?_) (fun hb=>?_))
    ·rw [show (decide (0<(az.length:Int)) || z)=true from hb]
     refine cQ (sA Z (sK [6] Z (cT (xR (xW (xR ?_))))))
     exact xt_rt Z ⟨Z,Z⟩ sbq
    ·rw [show (decide (0<(az.length:Int)) || z)=false from hb,fmAt_ix]
     refine cK (xT (cS (cQ (sV (vF Z fa54_2 Z) (sV (vY Z ld48) ?_)))))
     refine sV (vF Z fa25_1 Z) (sV (vY Z ld9) ?_)
     refine st_clr Z Z en66 Z (formalR_ct hrow n) ?_
     refine sV (v_lss Z Z) (sK [6,49] Z (cC Z (fun hf=>?_) (fun hf=>?_)))
     ·rw [show decide (ixD (fidx x.formals n)<0)=true from hf]
      refine cQ (sA Z (sK [6] Z (cT (xR (xW (xR ?_))))))
      exact xt_rt Z ⟨Z,Z⟩ sbq
     ·rw [show decide (ixD (fidx x.formals n)<0)=false from hf]
      refine cK (xT (cQ (sA Z (sK [6] Z (cT (xW (xR ?_)))))))
      exact xt_rt Z ⟨Z,Z⟩ sbq
   ·by_cases h3 : k = 3
    ·subst h3
     rw [inner_cls]
     have hbd:∀ (i:Nat) f,(fmsOf l n)[i]? = some f→f.bound=root∨isC (ksys l) f.bound=true:=fun i f hf=>h.bnd (n:=n) hf
     obtain ⟨hk1,hk2⟩ | ⟨k,hk1,hkl,hk2⟩:=kidx_find l n
     ·have hix : ixD (kidx l n) = -1 := by rw [hk1]; rfl
      have hfm:fmsOf l n=[]:=by unfold fmsOf; rw [hk2]; rfl
      rw [hk2,hfm]
      refine ct_of (n:=98) Tryz.func88 Z Z (len Z) fun hr w0=>?_
      refine cQ (st_bx Z Z fun b4=>?_)
      refine st_bx Z Z fun b5=>?_
      refine sA Z (sK [0,4,5,6] Z (cS (cQ (sV (vF Z fa25_0 Z) (sV (vY Z ld3) ?_)))))
      refine sK [0,4,5,6,12] Z (cB (cS (cQ (sV (v_eql Z Z) (sA Z (sK [0,4,5,6,12,13] Z (cd_false Z ?_)))))))
      refine cQ (sV (v_eql Z Z) (sA Z (sK [0,4,5,6,12,13] Z (cd_false Z ?_))))
      refine cR (sV (v_eql Z Z) (sA Z (sK [0,4,5,6,12,13] Z (cd_false Z ?_))))
      refine cQ (sV (v_eql Z Z) (sA Z (sK [0,4,5,6,12,34] Z (cd_false Z ?_))))
      refine cQ (sV (v_eql Z Z) (sA Z (sK [0,4,5,6,50] Z (cd_true Z ?_))))
      refine cQ (sM Z (sV (vF Z fa25_1 Z) (sV (vY Z ld9) ?_)))
      refine st_clr Z Z en49 Z (findR_ct hv n) ?_
      rw [hix]
      refine sA Z (sK [0,4,5,6,7] Z (cS (cQ (sM Z (sV (v_lss Z Z) (sM Z (sG Z Z (vF Z fa25_1 Z) (sG Z Z (vY Z ld9) ?_))))))))
      refine sG Z Z (v_sneq Z Z) (sV (vQ Z Z) (sK [0,4,5,6,7,62] Z (cC Z (fun hb=>?_) (fun hb=>?_))))
      ·have hb:(n != root)=true:=hb
       rw [show ((none:Option KC).isSome || n == root)=false by rw [show (n == root)=false by simpa using hb]; rfl]
       refine cQ (sA Z (sK [6] Z (cT (xR (xW (xR ?_))))))
       exact xt_rt Z ⟨Z,Z⟩ sbq
      ·have hb:(n != root)=false:=hb
       rw [show ((none:Option KC).isSome || n == root)=true by rw [show (n == root)=true by simpa using hb]; rfl]
       refine cK (xT (cQ (sA Z (sK [0,4,5,6,7,8] Z (cS (cQ (sM Z (sV (v_geq Z Z) (sK [0,4,5,6,7,8,64] Z (cd_false Z ?_))))))))))
       refine cK (xT (cS (cQ (sV (vF Z fa25_2 Z) (sV (vY Z ld23) ?_)))))
       refine sV (v_len Z Tryz.underlying23) (sM Z (sV (v_len Z Tryz.underlying48) (sV (v_neq Z Z) (sK [0,4,5,6,8,75] Z (cC Z (fun hq=>?_) (fun hq=>?_))))))
       ·rw [show (((az.length:Nat):Int) == (([]:List Fm).length:Nat))=false by simpa using hq]
        refine cQ (sA Z (sK [6] Z (cT (xR (xW (xR ?_))))))
        exact xt_rt Z ⟨Z,Z⟩ sbq
       ·have hq2:(((az.length:Nat):Int) == (([]:List Fm).length:Nat))=true:=by simpa using hq
        have haz:az=[]:=List.eq_nil_of_length_eq_zero (by have:=eq_of_beq hq2; simp at this; simpa using this)
        subst haz
        refine cK (xT (cS (cQ (sA Z (sK [0,4,5,6,8,9] Z (cB (cd_lq (σ := Unit) (fun _=>[(8,.slice none 0 0),(9,.int .i64 0)]) (fun _=>S::hr) (fun _=>True) (fun _=>0) () trivial ?_)))))))
        rintro _ _
        refine cS (cQ (sM Z (sM Z (sV (v_len Z Tryz.underlying48) (sV (v_lss Z Z) (sK [8,9,79] Z (cd_false Z ?_)))))))
        refine cd_exit (xE (xE (xY (xT (cQ (sA Z (sK [6] Z (cT (xW (xR ?_))))))))))
        exact xt_rt Z ⟨Z,Z⟩ sbq
     ·have hix : ixD (kidx l n) = (k : Int) := by rw [hk1]; rfl
      have hfm:fmsOf l n=l[k].formals:=fmsOf_some hk2
      obtain ⟨bl,ol,capl,us,e0,_,hrd0,dd,ff,pv2,cc2,ffa,ffc,i2,rfl,hone0,hrowf,_⟩:=Row.at hv (List.getElem?_eq_getElem hkl)
      cases e0
      rw [hk2]
      rw [← hfm] at hrowf
      generalize hFM:fmsOf l n=FM at *
      obtain ⟨ga,gc,rfl,hlcg,hcmg,_⟩:=id hrowf
      rw [show ((some l[k]:Option KC).isSome || n == root)=true from rfl]
      refine ct_of (n:=98) Tryz.func88 Z Z (len Z) fun hr w0=>?_
      refine cQ (st_bx Z Z fun b4=>?_)
      refine st_bx Z Z fun b5=>?_
      refine sA Z (sK [0,4,5,6] Z (cS (cQ (sV (vF Z fa25_0 Z) (sV (vY Z ld3) ?_)))))
      refine sK [0,4,5,6,12] Z (cB (cS (cQ (sV (v_eql Z Z) (sA Z (sK [0,4,5,6,12,13] Z (cd_false Z ?_)))))))
      refine cQ (sV (v_eql Z Z) (sA Z (sK [0,4,5,6,12,13] Z (cd_false Z ?_))))
      refine cR (sV (v_eql Z Z) (sA Z (sK [0,4,5,6,12,13] Z (cd_false Z ?_))))
      refine cQ (sV (v_eql Z Z) (sA Z (sK [0,4,5,6,12,34] Z (cd_false Z ?_))))
      refine cQ (sV (v_eql Z Z) (sA Z (sK [0,4,5,6,50] Z (cd_true Z ?_))))
      refine cQ (sM Z (sV (vF Z fa25_1 Z) (sV (vY Z ld9) ?_)))
      refine st_clr Z Z en49 Z (findR_ct hv n) ?_
      rw [hix]
      refine sA Z (sK [0,4,5,6,7] Z (cS (cQ (sM Z (sV (v_lss Z Z) (sM Z (st_cut (k:=7) (d:=62) (v:=.bool (decide ((k:Int)<0) && (n != root))) (fun hcut=>bool_want (b:=decide ((k:Int)<0)) true (fun hg=>?_) (fun hg=>?_)) ?_)))))))
      ·refine st_sk Z Z hg ?_
       iterate 2 refine st_sk rfl rfl hg ?_
       refine sV (vP (bO Z hg) Z) ?_
       exact hcut _ uG
      ·refine sG Z (bG Z hg) (vF Z fa25_1 Z) (sG Z (bG Z hg) (vY Z ld9) ?_)
       refine sG Z (bG Z hg) (v_sneq Z Z) (sV (vQ (bO Z hg) Z) ?_)
       exact hcut _ uG
      refine sK [0,4,5,6,7,62] Z ?_
      rw [show (decide ((k:Int)<0) && (n != root))=false by rw [decide_eq_false (by omega)]; rfl]
      refine cd_false Z ?_
      refine cK (xT (cQ (sA Z (sK [0,4,5,6,7,8] Z (cS (cQ (sM Z (sV (v_geq Z Z) (sK [0,4,5,6,7,8,64] Z ?_)))))))))
      rw [show decide ((0:Int)≤(k:Int))=true from decide_eq_true (by omega)]
      refine cd_true Z ?_
      refine cR (sM Z (sM Z (sV (vI (k:=k) Z Z sl22 Z hkl Z) (sV (vF Z fa54_2 Z) (sV (vY Z ld48) ?_)))))
      refine sA Z (sK [0,4,5,6,8] Z (cS (cQ (sV (vF Z fa25_2 Z) (sV (vY Z ld23) ?_)))))
      refine sV (v_len Z Tryz.underlying23) (sM Z (sV (v_len Z Tryz.underlying48) (sV (v_neq Z Z) (sK [0,4,5,6,8,75] Z (cC Z (fun hq=>?_) (fun hq=>?_))))))
      ·rw [show (((az.length:Nat):Int) == (FM.length:Nat))=false by simpa using hq]
       refine cQ (sA Z (sK [6] Z (cT (xR (xW (xR ?_))))))
       exact xt_rt Z ⟨Z,Z⟩ sbq
      ·have hq2:(((az.length:Nat):Int) == (FM.length:Nat))=true:=by simpa using hq
       have hle:az.length=FM.length:=by have:=eq_of_beq hq2; omega
       rw [if_pos rfl,if_pos hq2]
       refine cK (xT (cS (cQ (sA Z (sK [0,4,5,6,8,9] Z (cB (cd_lq (σ := Nat) (fun i=>[(0,.slice (some ⟨bl,ol,none⟩) l.length vc),(4,.pointer (some ⟨b4,0,none⟩)),(5,.pointer (some ⟨b5,0,none⟩)),(8,.slice ga FM.length gc),(9,.int .i64 (i:Nat))]) (fun _=>pt b4 (cl [n0,d,.slice fa x.formals.length fc,pv,c2,fs,ii] 54)::pt b5 (cl [.int .i64 3,sv n,.slice xa az.length xc,.bool w,.bool z] 25)::S::hr) (fun i=>i≤FM.length∧inners l x.formals az (FM.map (·.bound))=inners l x.formals (az.drop i) ((FM.drop i).map (·.bound))) (fun i=>FM.length - i) 0 ⟨Nat.zero_le _,Z⟩ ?_)))))))
       rintro i ⟨hi,hin⟩
       refine cS (cQ (sM Z (sM Z (sV (v_len Z Tryz.underlying48) (sV (v_lss Z Z) (sK [0,4,5,8,9,79] Z (cC Z (fun hd=>?_) (fun hd=>?_))))))))
       ·have hlf:i<FM.length:=by simpa using hd
        have hgf:=List.getElem?_eq_getElem hlf
        have hlt:i<az.length:=by omega
        have hg:=List.getElem?_eq_getElem hlt
        have hmem:=List.getElem_mem hlt
        obtain ⟨b,o,cap2,us,e1,hus,hrd,hta⟩:=hy.at hg
        cases e1
        obtain ⟨bf,of,capf,e2,hrf⟩:=fm_at hrowf hgf
        cases e2
        rw [List.drop_eq_getElem_cons hlt,List.drop_eq_getElem_cons hlf,List.map_cons,inners_cons] at hin
        have hbf:=hbd i _ hgf
        generalize az[i]=a at hg hmem hta hin
        generalize FM[i]=f at hgf hrf hbf hin
        obtain ⟨y,rfl,hya⟩:=hta.out
        obtain ⟨ya,yc,rfl,_⟩:=id hya.form
        have hac:=argument_of h hv hx hrow hbf (hF a hmem _ hya)
        unfold tyC at hac hrd
        unfold fmA at hrf
        refine cK (xT (cS (cB (cS (cd_drawh (ork [(0,2),(1,1),(2,2),(3,1),(4,2),(5,2),(6,1),(7,2),(8,2),(9,2),(10,2),(11,1),(12,1),(13,2)] .nil) (fun _=>true) mixed (by kernel_rfl) ?_)))))
        refine dV Z (vM Z) (dr_v Z (v_ldn Z ld54 Z rds_pt) ?_)
        refine dV Z (vF Z fa25_2 Z) (dr_v Z (vY Z ld23) ?_)
        refine dV Z (vM Z) (dV Z (vI (k:=i) Z Z sl23 Z hlt Z) (dr_v Z (v_ldn Z ld25 Z hrd) ?_))
        refine dV Z (vM Z) (dV Z (vM Z) (dV Z (vI (k:=i) Z Z sl48 Z hlf Z) (dV Z (vF Z fa94_1 Z) (dr_v Z (vY Z ld9) ?_))))
        refine dr_clr Z Z Z en50 Z (hac) ?_
        refine dV Z (vA Z) (dr_nil (nK [0,4,5,8,9,10] Z (nT (cQ (sM Z (sV (v_neq Z Z) (sK [0,4,5,8,9,10,96] Z (cC Z (fun he=>?_) (fun he=>?_)))))))))
        ·have he:actE l x.formals a f.bound≠0:=by simpa using he
         rw [hin,if_pos he]
         refine cQ (sM Z (sA Z (sK [6] Z (cT (xW (xR (xR (xW (xR (xW (xR ?_)))))))))))
         exact xt_rt Z ⟨Z,Z⟩ sbq
        ·have he:actE l x.formals a f.bound=0:=by simpa using he
         rw [if_neg (by simpa using he)] at hin
         refine cK (xB (xT (cR (sM Z (sV (v_add Z Z (by unfold I64 at *; omega)) (sA Z (sN (nK [0,4,5,8,9] Z (nx_xt ?_)))))))))
         refine xt_aq (i+1) ⟨hlf,hin⟩ (Nat.sub_lt_sub_left hlf (Nat.lt_succ_self i))
       ·have hil:i=FM.length:=by
         have:¬ i<FM.length:=by simpa using hd
         omega
        rw [hil,List.drop_length,← hle,List.drop_length,List.map_nil,inners] at hin
        rw [hin]
        refine cd_exit (xE (xE (xY (xT (cQ (sA Z (sK [6] Z (cT (xW (xR ?_))))))))))
        exact xt_rt Z ⟨Z,Z⟩ sbq
    ·rw [inner_odd hk h4 h3]
     have q0:(k == 0)=false:=beq_eq_false_iff_ne.2 fun e=>hk (.inl e)
     have q1:(k == 1)=false:=beq_eq_false_iff_ne.2 fun e=>hk (.inr (.inl e))
     have q2:(k == 2)=false:=beq_eq_false_iff_ne.2 fun e=>hk (.inr (.inr e))
     have q3:(k == 3)=false:=beq_eq_false_iff_ne.2 h3
     have q4:(k == 4)=false:=beq_eq_false_iff_ne.2 h4
     refine ct_of (n:=98) Tryz.func88 Z Z (len Z) fun hr w0=>?_
     refine cQ (st_bx Z Z fun b4=>?_)
     refine st_bx Z Z fun b5=>?_
     refine sA Z (sK [0,4,5,6] Z (cS (cQ (sV (vF Z fa25_0 Z) (sV (vY Z ld3) ?_)))))
     refine sK [0,4,5,6,12] Z (cB (cS (cQ (sV (v_eql Z Z) (sA Z (sK [0,4,5,6,12,13] Z ?_))))))
     rw [q1]
     refine cd_false Z ?_
     refine cQ (sV (v_eql Z Z) (sA Z (sK [0,4,5,6,12,13] Z ?_)))
     rw [q2]
     refine cd_false Z ?_
     refine cR (sV (v_eql Z Z) (sA Z (sK [0,4,5,6,12,13] Z ?_)))
     rw [q0]
     refine cd_false Z ?_
     refine cQ (sV (v_eql Z Z) (sA Z (sK [0,4,5,6,12,34] Z ?_)))
     rw [q4]
     refine cd_false Z ?_
     refine cQ (sV (v_eql Z Z) (sA Z (sK [0,4,5,6,50] Z ?_)))
     rw [q3]
     refine cd_false Z ?_
     refine cK (xB (xT (cQ (sA Z (sK [6] Z (cT ?_))))))
     exact xt_rt Z ⟨Z,Z⟩ sbq
set_option maxRecDepth 100000 in
theorem rightIn_ct (h:HRight l) (hv:ksysR S v l) {x:KC} (hx:x∈l) {n0 d pv c2 fs ii:Value} {fa:Option Addr} {fc:Nat} (hrow:Row S 2 fmC (.slice fa x.formals.length fc) x.formals) {us:List Value} (ht:Ty S us t) (hd:t.depth≤1000000) :
  Reads Tryz.prog 95 #[v,.agg #[n0,d,.slice fa x.formals.length fc,pv,c2,fs,ii],.agg us.toArray] [S] (.int .i64 (rightK l x.formals t)):=by
 have hde:=deep_ct hd ht
 obtain ⟨y,rfl,hy⟩:=ht.out
 have hri:=rightR_go h hv hx (n0:=n0) (d:=d) (pv:=pv) (c2:=c2) (fs:=fs) (ii:=ii) hrow t.depth t y (Nat.le_refl _) hy
 obtain ⟨ya,yc,rfl,_⟩:=id hy.form
 unfold tyC at hde hri ⊢
 unfold rightK
 refine ct_of (n:=14) Tryz.func95 Z Z (len Z) fun hr w0=>?_
 refine cQ (st_bx Z Z fun b4=>?_)
 refine st_bx Z Z fun b5=>?_
 refine sA Z (sK [0,4,5,6] Z (cS (cQ (sV (v_ldn Z ld25 Z rds_pt) ?_))))
 refine st_clr Z Z en51 Z (hde) ?_
 refine sV (v_gtr Z Z) (sK [0,4,5,6,9] Z (cC Z (fun hq=>?_) (fun hq=>?_)))
 ·rw [if_pos (by have:=of_decide_eq_true hq; omega)]
  refine cQ (sA Z (sK [6] Z (cT (xR ?_))))
  exact xt_rt Z ⟨Z,Z⟩ sbq
 ·rw [if_neg (by have:=of_decide_eq_false hq; omega)]
  refine cK (xT (cQ (sM Z (sV (v_ldn Z ld54 Z rds_pt) ?_))))
  refine sV (v_ldn Z ld25 Z rds_pt) ?_
  refine st_clr Z Z en88 Z (hri) ?_
  refine sA Z (sK [6] Z (cT ?_))
  exact xt_rt Z ⟨Z,Z⟩ sbq
end
end Go.Hr
namespace Go.Hr
open Go Go.RowKit Go.Ck Go.Proofs Go.Proofs.YtaohbfnepjjdgaaGreat Fx
attribute [local irreducible] Go.Ck.Sub St Cd Xt Nx DrL LsW
section
variable {S T N R:Res} {v:Value} {F:List Fm} {A:List Kt} {l:KS} {s t:Kt} {ts:List Kt} {rows:List (List Value)}
theorem act_none {n:Nm}:(decide (ixD (fidx F n)<0) || decide ((A.length:Nat)≤ixD (fidx F n))) = !(actOf F A n).isSome:=by
 rw [← act_bool]
 by_cases h1:(0:Int)≤ixD (fidx F n)
 ·rw [decide_eq_true h1,decide_eq_false (by omega),Bool.false_or,Bool.true_and]
  by_cases h2:ixD (fidx F n)<(A.length:Nat)
  ·rw [decide_eq_true h2,decide_eq_false (by omega)]; rfl
  ·rw [decide_eq_false h2,decide_eq_true (by omega)]; rfl
 ·rw [decide_eq_false h1,decide_eq_true (by omega)]; rfl
theorem substR_go {fa : Option Addr} {fcap : Nat} (hrow : Row S 2 fmC (.slice fa F.length fcap) F) {aa : Option Addr} {acap : Nat} (hA : Tys S (.slice aa A.length acap) A) : ∀ (d : Nat) (t : Kt) (y : Value), t.depth ≤ d → Tys S y t.args →
  CtN Tryz.prog 32 #[.slice fa F.length fcap,.slice aa A.length acap,.agg (tyC t y).toArray] [S] fun u T=>∃ us:List Value,u = .agg us.toArray∧Ty (Res.star [T,S]) us (t.subst F A):=by
 intro d
 induction d with
 | zero=>intro t y hd; cases t; simp [Kt.depth] at hd
 | succ d ih =>
  rintro ⟨k,n,az,w,z⟩ y hd hy
  have hy:Tys S y az:=hy
  have hF:=fun a (ha:a∈az) y hy=>ih a y (by have:=depth_args (t:=.mk k n az w z) ha; omega) hy
  clear ih hd
  have hml:maxLen=9223372036854775807:=rfl
  have hrb:reachBytes=140737488351232:=rfl
  obtain ⟨xa,xc,rfl,hlc,hcm,_⟩:=hy.form
  have hbb:=hy.2
  show CtN _ _ #[_,_,.agg #[.int .i64 k,sv n,.slice xa az.length xc,.bool w,.bool z]] _ _
  by_cases h4:k=4
  ·subst h4
   rw [subst_formal]
   refine ct_of (n:=71) Tryz.func32 Z Z (len Z) fun hr w0=>?_
   refine cQ (st_bx Z Z fun b5=>?_)
   refine st_alc al25 fun b6=>?_
   refine sK [0,1,5,6] Z (cS (cQ (sV (vF Z fa25_0 Z) (sV (vY Z ld3) ?_))))
   refine sV (v_eql Z Z) (sK [0,1,5,6,13] Z (cd_true Z ?_))
   refine cQ (sM Z (sV (vF Z fa25_1 Z) (sV (vY Z ld9) ?_)))
   refine st_clr Z Z en66 Z (formalR_ct hrow n) ?_
   refine sA Z (sK [0,1,5,6,7] Z (cS (cQ (sM Z (sV (v_lss Z Z) (sM Z (st_cut (k:=8) (d:=25) (v:=.bool (decide (ixD (fidx F n)<0) || decide ((A.length:Nat)≤ixD (fidx F n)))) (fun hcut=>bool_want (b:=decide (ixD (fidx F n)<0)) false (fun hg=>?_) (fun hg=>?_)) ?_)))))))
   ·refine st_sk Z Z hg ?_
    iterate 3 refine st_sk rfl rfl hg ?_
    refine sV (vQ (bO Z hg) Z) ?_
    exact hcut _ uG
   ·refine sG Z (bG Z hg) (vM Z) (sG Z (bG Z hg) (vM Z) (sG Z (bG Z hg) (v_len Z Tryz.underlying23) (sG Z (bG Z hg) (v_geq Z Z) (sV (vP (bO Z hg) Z) ?_))))
    exact hcut _ uG
   rw [act_none]
   cases hac:actOf F A n with
   | none =>
    refine sK [0,1,5,6,7,25] Z (cd_true Z ?_)
    refine cQ (sV (v_ldn Z ld25 Z rds_pt) ?_)
    refine st_stoW Z Z sz25 Z Z ?_
    refine sK [6] Z (cT (xR (xR (xt_vw (vw_unstar (L:=[])) ?_))))
    exact xt_retV (.cellN Z ld25 Z slq .nil) ⟨Res.star [],Z,_,Z,Ty.of (t:=.mk 4 n az w z) Z (hy.mono (rd_in (.there .here)))⟩ sbr
   | some a =>
    obtain ⟨j,hj,haj⟩:=act_at hac
    have hlt:j<A.length:=(List.getElem?_eq_some_iff.1 haj).1
    obtain ⟨b,o,cap2,us,e1,hus,hrd,hta⟩:=hA.at haj
    cases e1
    have hone:=hta.ones
    obtain ⟨y,rfl,hya⟩:=hta.out
    obtain ⟨ya,yc,rfl,_⟩:=id hya.form
    unfold tyC at hrd hone
    rw [hj]
    refine sK [0,1,5,6,7,25] Z (cd_false Z ?_)
    refine cK (xT (cQ (sM Z (sM Z (sV (vI (k:=j) Z Z sl23 Z hlt Z) (sV (v_ldn Z ld25 Z hrd) ?_))))))
    refine st_alc al25 fun b8=>?_
    refine st_stoW Z Z sz25 Z hone ?_
    refine sK [0,1,5,6,8] Z (cQ (sV (vF Z fa25_3 Z) (sV (vY Z ld4) ?_)))
    refine sM Z (st_cut (k:=6) (d:=36) (v:=.bool (a.void || w)) (fun hcut=>bool_want (b:=(a.void)) false (fun hg=>?_) (fun hg=>?_)) ?_)
    ·refine st_sk Z Z hg ?_
     refine st_sk Z Z hg ?_
     refine sV (vQ (bO Z hg) Z) ?_
     exact hcut _ uG
    ·refine sG Z (bG Z hg) (vF Z fa25_3 Z) (sG Z (bG Z hg) (vY Z ld4) ?_)
     refine sV (vP (bO Z hg) Z) ?_
     exact hcut _ uG
    refine sV (vF Z fa25_3 Z) (st_sto Z Z sz4 ?_)
    refine sK [0,1,5,6,8] Z (cQ (sV (vF Z fa25_4 Z) (sV (vY Z ld4) ?_)))
    refine sM Z (st_cut (k:=6) (d:=43) (v:=.bool (a.sep || z)) (fun hcut=>bool_want (b:=(a.sep)) false (fun hg=>?_) (fun hg=>?_)) ?_)
    ·refine st_sk Z Z hg ?_
     refine st_sk Z Z hg ?_
     refine sV (vQ (bO Z hg) Z) ?_
     exact hcut _ uG
    ·refine sG Z (bG Z hg) (vF Z fa25_4 Z) (sG Z (bG Z hg) (vY Z ld4) ?_)
     refine sV (vP (bO Z hg) Z) ?_
     exact hcut _ uG
    refine sV (vF Z fa25_4 Z) (st_sto Z Z sz4 ?_)
    refine sK [0,1,5,6,8] Z (cQ (sV (v_ldn Z ld25 Z rds_pt) ?_))
    refine st_stoW Z Z sz25 Z Z ?_
    refine sK [6] Z (cT (xR (xt_vw (vw_unstar (L:=[])) ?_)))
    exact xt_retV (.cellN Z ld25 Z slq .nil) ⟨Res.star [],Z,_,Z,Ty.of (t:=a.flag w z) Z (hya.mono (rd_in (.there .here)))⟩ sbr
  ·by_cases h3 : k = 3
   ·subst h3
    rw [subst_class]
    have hsn:∀ i (h:i<az.length),(az.take (i+1)).map (Kt.subst F A)=(az.take i).map (Kt.subst F A)++[(az[i]).subst F A]:=fun i h=>by rw [List.take_add_one,List.getElem?_eq_getElem h,List.map_append]; rfl
    refine ct_of (n:=71) Tryz.func32 Z Z (len Z) fun hr w0=>?_
    refine cQ (st_bx Z Z fun b5=>?_)
    refine st_alc al25 fun b6=>?_
    refine sK [0,1,5,6] Z (cS (cQ (sV (vF Z fa25_0 Z) (sV (vY Z ld3) ?_))))
    refine sV (v_eql Z Z) (sK [0,1,5,6,13] Z (cd_false Z ?_))
    refine cK (xT (cS (cQ (sV (vF Z fa25_0 Z) (sV (vY Z ld3) ?_)))))
    refine sV (v_neq Z Z) (sK [0,1,5,6,48] Z (cd_false Z ?_))
    refine cK (xT (cQ (sA Z (sK [0,1,5,6,9] Z (cS (cQ (sA Z (sN (nT (cB (cd_vw (vw_nil 25 5) (cd_vw (vw_unstar (L:=[])) ?_))))))))))))
    refine cd_lq (σ := Value×List (List Value)×Res×Nat) (fun q=>[(0,.slice fa F.length fcap),(1,.slice aa A.length acap),(5,.pointer (some ⟨b5,0,none⟩)),(6,.pointer (some ⟨b6,0,none⟩)),(9,q.1),(10,.int .i64 (q.2.2.2:Nat))]) (fun q=>VR q.1 25 5 q.2.1::q.2.2.1::pt b5 (cl [.int .i64 3,sv n,.slice xa az.length xc,.bool w,.bool z] 25)::pt b6 (cl [.int .i64 0,sv [],.slice none 0 0,.bool false,.bool false] 25)::S::hr) (fun q=>q.2.2.2≤az.length∧q.1.oneCell'=true∧TyRows (Res.star [q.2.2.1,S]) q.2.1 ((az.take q.2.2.2).map (Kt.subst F A))) (fun q=>az.length - q.2.2.2) (.slice none 0 0,[],Res.star [],0) ⟨Nat.zero_le _,rfl,TyRows.nil⟩ ?_
    rintro ⟨wv,rows,T,i⟩ ⟨hi,hwv,hro⟩
    simp only at hi hwv hro
    dsimp only
    have hrl:rows.length=i:=by rw [hro.1]; simp; omega
    refine cS (cQ (sM Z (sV (vF Z fa25_2 Z) (sV (vY Z ld23) ?_))))
    refine sV (v_len Z Tryz.underlying23) (sV (v_lss Z Z) (sK [0,1,5,6,9,10,54] Z (cC Z (fun hd=>?_) (fun hd=>?_))))
    ·have hlt:i<az.length:=by simpa using hd
     have hmem:=List.getElem_mem hlt
     obtain ⟨b,o,cap2,us,e1,hus,hrd,hta⟩:=hy.at (List.getElem?_eq_getElem hlt)
     cases e1
     have hsn:=hsn i hlt
     generalize az[i]=a at hmem hta hsn
     obtain ⟨y,rfl,hya⟩:=hta.out
     have hca:=hF a hmem y hya
     obtain ⟨ya,yc,rfl,_⟩:=id hya.form
     unfold tyC at hrd hca
     refine cK (xT (cS (cB (cR (sM Z (sM Z (sM Z (sV (vF Z fa25_2 Z) (sV (vY Z ld23) ?_)))))))))
     refine sM Z (sV (vI (k:=i) Z Z sl23 Z hlt Z) (sV (v_ldn Z ld25 Z hrd) ?_))
     refine st_cl Z Z en32 Z (hca) ?_
     rintro u h' ⟨T2,rfl,us2,rfl,hT2⟩
     simp only [lC,lN]
     obtain ⟨y2,rfl,hy2⟩:=id hT2.out
     obtain ⟨za,zc,rfl,_⟩:=id hy2.form
     refine st_buildSlice (cells:=tyC (a.subst F A) (.slice za (a.subst F A).args.length zc)) rfl Tryz.underlying23 inf25 rfl rfl (by kernel_rfl) (ltn rfl) fun b66=>?_
     refine st_app [tyC (a.subst F A) (.slice za (a.subst F A).args.length zc)] rfl rfl Tryz.underlying23 inf25 rfl (by decide) (show Sel _ (VR wv 25 5 rows) _ from slq) (by simp [tyC]) rfl (fun j u2 hu2=>at_here (rd_cl (by simpa [tyC] using hu2))) (by simp [tyC,Value.oneCell']) (by rw [hrl]; omega) (by rw [hrl]; omega) (ltn rfl) fun w2 hw2 _=>?_
     refine sA Z (sN (nK [0,1,5,6,9,10] Z (nx_xt (xB (xT (cR (sM Z (sV (v_add Z Z (by unfold I64 at *; omega)) (sA Z (sN (nK [0,1,5,6,9,10] Z (nx_xt (xt_pv (pv_pack (L:=[T,T2])) ?_)))))))))))))
     simp only [lC,lN]
     refine xt_aq (w2,rows++[tyC (a.subst F A) (.slice za (a.subst F A).args.length zc)],Res.star [T,T2],i+1) ⟨hlt,hw2,by rw [hsn]; exact (hro.mono fun p u h=>rd_up p u .here h).snoc (hT2.mono fun p u h=>rd_up p u (.there .here) h)⟩ (Nat.sub_lt_sub_left hlt (Nat.lt_succ_self i))
    ·have hil:i=az.length:=by
      have:¬ i<az.length:=by simpa using hd
      omega
     subst hil
     rw [List.take_length] at hro
     refine cd_exit (xE (xE (xY (xT (cQ (sM Z (sV (vF Z fa25_2 Z) (st_sto Z Z sz23 ?_))))))))
     refine sK [5,6] Z (cQ (st_ok (r:=VR wv 25 5 rows) slq fun hok=>?_))
     refine st_pv (pv_pack (L:=[VR wv 25 5 rows,T])) ?_
     simp only [lC,lN]
     have hty:Tys (Res.star [Res.star [VR wv 25 5 rows,T],S]) wv (az.map (Kt.subst F A)):=(hro.mono fun p u h=>rd_up p u (.there .here) h).tys hok (fun p u h=>rd_in .here p u (rd_in .here p u h)) (by simpa using hbb)
     obtain ⟨wa,wc,rfl,_⟩:=id hty.form
     refine sV (v_ldn Z ld25 Z rds_pt) ?_
     refine st_stoW Z Z sz25 Z Z ?_
     refine sK [6] Z (cT ?_)
     exact xt_retV (.cellN rfl ld25 rfl slq .nil) ⟨Res.star [VR (.slice wa (az.map (Kt.subst F A)).length wc) 25 5 rows,T],rfl,tyC (.mk 3 n (az.map (Kt.subst F A)) w z) (.slice wa (az.map (Kt.subst F A)).length wc),rfl,Ty.of (t:=.mk 3 n (az.map (Kt.subst F A)) w z) rfl hty⟩ sbr
   ·rw [subst_other h4 h3]
    have q4:(k == 4)=false:=beq_eq_false_iff_ne.2 h4
    have q3:(k != 3)=true:=bne_iff_ne.2 h3
    refine ct_of (n:=71) Tryz.func32 Z Z (len Z) fun hr w0=>?_
    refine cQ (st_bx Z Z fun b5=>?_)
    refine st_alc al25 fun b6=>?_
    refine sK [0,1,5,6] Z (cS (cQ (sV (vF Z fa25_0 Z) (sV (vY Z ld3) ?_))))
    refine sV (v_eql Z Z) (sK [0,1,5,6,13] Z ?_)
    rw [q4]
    refine cd_false Z ?_
    refine cK (xT (cS (cQ (sV (vF Z fa25_0 Z) (sV (vY Z ld3) ?_)))))
    refine sV (v_neq Z Z) (sK [0,1,5,6,48] Z ?_)
    rw [q3]
    refine cd_true Z ?_
    refine cQ (sV (v_ldn Z ld25 Z rds_pt) ?_)
    refine st_stoW Z Z sz25 Z Z ?_
    refine sK [6] Z (cT (xR (xt_vw (vw_unstar (L:=[])) ?_)))
    exact xt_retV (.cellN Z ld25 Z slq .nil) ⟨Res.star [],Z,_,Z,Ty.of (t:=.mk k n az w z) Z (hy.mono (rd_in (.there .here)))⟩ sbr
set_option maxRecDepth 100000 in
theorem substR_ct {fv av:Value} (hf:Row S 2 fmC fv F) (hA:Tys S av A) {us:List Value} (hu:Ty S us t) :
  CtN Tryz.prog 32 #[fv,av,.agg us.toArray] [S] fun u T=>∃ us:List Value,u = .agg us.toArray∧Ty (Res.star [T,S]) us (t.subst F A):=by
 obtain ⟨fa,fcap,rfl,_⟩:=id hf
 obtain ⟨aa,acap,rfl,_⟩:=id hA.form
 obtain ⟨y,rfl,hy⟩:=hu.out
 exact substR_go hf hA t.depth t y (Nat.le_refl _) hy
set_option maxRecDepth 100000 in
theorem substAll_ct {fv av : Value} (hf : Row S 2 fmC fv F) (hA : Tys S av A) (hv : Tys S v ts) :
  CtN Tryz.prog 93 #[fv,av,v] [S] fun u T=>∃ a cap,u = .slice a (ts.map (Kt.subst F A)).length cap∧Tys (Res.star [T,S]) u (ts.map (Kt.subst F A)):=by
 have hml:maxLen=9223372036854775807:=rfl
 have hrb:reachBytes=140737488351232:=rfl
 have hbb:=hv.2
 have hsb:=fun t us (hu:Ty S us t)=>substR_ct hf hA hu
 obtain ⟨fa,fcap,rfl,_⟩:=id hf
 obtain ⟨aa,acap,rfl,_⟩:=id hA.form
 obtain ⟨xa,xc,rfl,hlc,hcm,_⟩:=hv.form
 have hsn:∀ i (h:i<ts.length),(ts.take (i+1)).map (Kt.subst F A)=(ts.take i).map (Kt.subst F A)++[(ts[i]).subst F A]:=fun i h=>by rw [List.take_add_one,List.getElem?_eq_getElem h,List.map_append]; rfl
 refine ct_of (n:=26) Tryz.func93 Z Z (len Z) fun hr w0=>?_
 refine cQ (sA Z (sN (nT (cQ (sA Z (sN (nT (cS (cQ (sA Z (sN (nT (cB ?_)))))))))))))
 refine cd_vw (vw_nil 25 5) (cd_vw (vw_unstar (L:=[])) (cd_lq (σ := Value×List (List Value)×Res×Nat) (fun q=>[(0,.slice fa F.length fcap),(1,.slice aa A.length acap),(2,.slice xa ts.length xc),(7,q.1),(8,.int .i64 (q.2.2.2:Nat))]) (fun q=>VR q.1 25 5 q.2.1::q.2.2.1::S::hr) (fun q=>q.2.2.2≤ts.length∧q.1.oneCell'=true∧TyRows (Res.star [q.2.2.1,S]) q.2.1 ((ts.take q.2.2.2).map (Kt.subst F A))) (fun q=>ts.length - q.2.2.2) (.slice none 0 0,[],Res.star [],0) ⟨Nat.zero_le _,rfl,TyRows.nil⟩ ?_))
 rintro ⟨wv,rows,T,i⟩ ⟨hi,hwv,hro⟩
 simp only at hi hwv hro
 dsimp only
 have hrl:rows.length=i:=by rw [hro.1]; simp; omega
 refine cS (cQ (sM Z (sM Z (sV (v_len Z Tryz.underlying23) (sV (v_lss Z Z) (sK [0,1,2,7,8,12] Z (cC Z (fun hd=>?_) (fun hd=>?_))))))))
 ·have hlt:i<ts.length:=by simpa using hd
  obtain ⟨b,o,cap2,us,e1,hus,hrd,hta⟩:=hv.at (List.getElem?_eq_getElem hlt)
  cases e1
  have hsn:=hsn i hlt
  generalize ts[i]=a at hta hsn
  have hca:=hsb a us hta
  obtain ⟨y,rfl,hya⟩:=hta.out
  obtain ⟨ya,yc,rfl,_⟩:=id hya.form
  unfold tyC at hrd hca
  refine cK (xT (cS (cB (cR (sM Z (sM Z (sM Z (sM Z (sM Z (sV (vI (k:=i) Z Z sl23 Z hlt Z) (sV (v_ldn Z ld25 Z hrd) ?_)))))))))))
  refine st_cl Z Z en32 Z (hca) ?_
  rintro u h' ⟨T2,rfl,us2,rfl,hT2⟩
  simp only [lC,lN]
  obtain ⟨y2,rfl,hy2⟩:=id hT2.out
  obtain ⟨za,zc,rfl,_⟩:=id hy2.form
  refine st_buildSlice (cells:=tyC (a.subst F A) (.slice za (a.subst F A).args.length zc)) rfl Tryz.underlying23 inf25 rfl rfl (by kernel_rfl) (ltn rfl) fun b23=>?_
  refine st_app [tyC (a.subst F A) (.slice za (a.subst F A).args.length zc)] rfl rfl Tryz.underlying23 inf25 rfl (by decide) (show Sel _ (VR wv 25 5 rows) _ from slq) (by simp [tyC]) rfl (fun j u2 hu2=>at_here (rd_cl (by simpa [tyC] using hu2))) (by simp [tyC,Value.oneCell']) (by rw [hrl]; omega) (by rw [hrl]; omega) (ltn rfl) fun w2 hw2 _=>?_
  refine sA Z (sN (nK [0,1,2,7,8] Z (nx_xt (xB (xT (cR (sM Z (sV (v_add Z Z (by unfold I64 at *; omega)) (sA Z (sN (nK [0,1,2,7,8] Z (nx_xt (xt_pv (pv_pack (L:=[T,T2])) ?_)))))))))))))
  simp only [lC,lN]
  refine xt_aq (w2,rows++[tyC (a.subst F A) (.slice za (a.subst F A).args.length zc)],Res.star [T,T2],i+1) ⟨hlt,hw2,by rw [hsn]; exact (hro.mono fun p u h=>rd_up p u .here h).snoc (hT2.mono fun p u h=>rd_up p u (.there .here) h)⟩ (Nat.sub_lt_sub_left hlt (Nat.lt_succ_self i))
 ·have hil:i=ts.length:=by
   have:¬ i<ts.length:=by simpa using hd
   omega
  rw [hil,List.take_length] at hro
  refine cd_exit (xE (xE (xY (xT (cQ (sM Z (sA Z (sK [6] Z (cT (xt_ok (r:=VR wv 25 5 rows) slq fun hok=>?_))))))))))
  refine xt_pv (pv_pack (L:=[VR wv 25 5 rows,T])) ?_
  simp only [lC,lN]
  have hty:Tys (Res.star [Res.star [VR wv 25 5 rows,T],S]) wv (ts.map (Kt.subst F A)):=(hro.mono fun p u h=>rd_up p u (.there .here) h).tys hok (fun p u h=>rd_in .here p u (rd_in .here p u h)) (by simpa using hbb)
  obtain ⟨wa,wc,rfl,_⟩:=id hty.form
  exact xt_rt Z ⟨_,Z,wa,wc,Z,hty⟩ sbq
set_option maxRecDepth 100000 in
theorem ownR_ct {fa : Option Addr} {fcap : Nat} (hrow : Row S 2 fmC (.slice fa F.length fcap) F) (hF : F.length ≤ 3) : CtN Tryz.prog 91 #[.slice fa F.length fcap] [S] fun u T => ∃ a cap, u = .slice a F.length cap ∧ Tys T u (ownT F) := by
 have hml:maxLen=9223372036854775807:=rfl
 have hrb:reachBytes=140737488351232:=rfl
 refine ct_of (n:=21) Tryz.func91 Z Z (len Z) fun hr w0=>?_
 refine cQ (sA Z (sN (nT (cQ (sA Z (sN (nT (cS (cQ (sA Z (sN (nT (cB ?_)))))))))))))
 refine cd_vw (vw_nil 25 5) (cd_lq (σ := Value×Nat) (fun q=>[(0,.slice fa F.length fcap),(3,q.1),(4,.int .i64 (q.2:Nat))]) (fun q=>VR q.1 25 5 ((ownT (F.take q.2)).map fun t=>tyC t (.slice none 0 0))::S::hr) (fun q=>q.2≤F.length∧q.1.oneCell'=true) (fun q=>F.length - q.2) (.slice none 0 0,0) ⟨Nat.zero_le _,Z⟩ ?_)
 rintro ⟨w,i⟩ ⟨hi,hw⟩
 simp only at hi hw
 dsimp only
 refine cS (cQ (sM Z (sM Z (sV (v_len Z Tryz.underlying48) (sV (v_lss Z Z) (sK [0,3,4,8] Z (cC Z (fun hd=>?_) (fun hd=>?_))))))))
 ·have hlt:i<F.length:=by simpa using hd
  obtain ⟨b,o,cap2,e1,hrd⟩:=fm_at hrow (List.getElem?_eq_getElem hlt)
  cases e1
  have htk:F.take (i+1)=F.take i++[F[i]]:=by rw [List.take_add_one,List.getElem?_eq_getElem hlt]; rfl
  generalize F[i]=f at hrd htk
  unfold fmA at hrd
  refine cK (xT (cS (cB (cR (sM Z (sM Z (sM Z (sV (vI (k:=i) Z Z sl48 Z hlt Z) (sV (vF Z fa94_0 Z) (sV (vY Z ld9) ?_))))))))))
  refine sV (v_build (cells:=tyC (.mk 4 f.name [] false false) (.slice none 0 0)) Z (fun _=>by kernel_rfl)) ?_
  refine st_buildSlice (cells:=tyC (.mk 4 f.name [] false false) (.slice none 0 0)) Z Tryz.underlying23 inf25 Z Z (by kernel_rfl) (ltn Z) fun b18=>?_
  refine st_app [tyC (.mk 4 f.name [] false false) (.slice none 0 0)] Z Z Tryz.underlying23 inf25 Z (by decide) (show Sel _ (VR w 25 5 _) _ from slq) (by simp [tyC]) Z (fun j u2 hu2=>at_here (rd_cl (by simpa [tyC] using hu2))) (by simp [tyC,Value.oneCell']) (by simp [ownT]; omega) (by simp [ownT]; omega) (ltn Z) fun w2 hw2 _=>?_
  rw [show (ownT (F.take i)).map (fun t=>tyC t (.slice none 0 0))++[tyC (.mk 4 f.name [] false false) (.slice none 0 0)]=(ownT (F.take (i+1))).map (fun t=>tyC t (.slice none 0 0)) by rw [htk]; simp [ownT]]
  refine sA Z (sN (nK [0,3,4] Z (nx_xt (xB (xT (cR (sM Z (sV (v_add Z Z (by unfold I64 at *; omega)) (sA Z (sN (nK [0,3,4] Z (nx_xt ?_))))))))))))
  refine xt_aq (w2,i+1) ⟨hlt,hw2⟩ (Nat.sub_lt_sub_left hlt (Nat.lt_succ_self i))
 ·have hil:i=F.length:=by
   have:¬ i<F.length:=by simpa using hd
   omega
  subst hil
  rw [List.take_length]
  refine cd_exit (xE (xE (xY (xT (cQ (sM Z (sA Z (sK [2] Z (cT (xt_ok (r:=VR w 25 5 ((ownT F).map fun t=>tyC t (.slice none 0 0))) slq fun hok=>?_))))))))))
  have hty:Tys (VR w 25 5 ((ownT F).map fun t=>tyC t (.slice none 0 0))) w (ownT F):=⟨row_vr hok (by simp) (fun _ _ h=>h) fun j us x h1 h2=>by
   rw [List.getElem?_map,h2] at h1
   simp at h1; subst h1
   have hx:x.args=[]:=by
    obtain ⟨k,hk,rfl⟩:=List.getElem_of_mem (List.mem_of_getElem? h2)
    simp [ownT,Kt.args]
   exact Ty.of Z (by rw [hx]; exact Tys.nil),by simp [ownT]; omega⟩
  obtain ⟨a7,c7,hv7,_⟩:=id hty.form
  rw [show (ownT F).length=F.length by simp [ownT]] at hv7
  subst hv7
  exact xt_rt Z ⟨_,Z,a7,c7,Z,hty⟩ sbq
set_option maxRecDepth 100000 in
theorem PartsR_ct : ∀ (d : Nat) (az : List Kt) (v : Value), depths az ≤ d → partss az ≤ 1000000000 → Tys S v az → Reads Tryz.prog 94 #[v] [S] (.int .i64 (partss az : Nat)) := by
 intro d
 induction d with
 | zero =>
  intro az v hd hb hv
  cases az with
  | cons a t=>exfalso; simp only [depths,depth_eq] at hd; omega
  | nil =>
   obtain ⟨xa,xc,rfl,hlc,hcm,_⟩:=hv.form
   refine ct_of (n:=21) Tryz.func94 Z Z (len Z) fun hr w0=>?_
   refine cQ (sA Z (sN (nT (cQ (sA Z (sN (nT (cS (cQ (sA Z (sN (nT (cB ?_)))))))))))))
   refine cd_lq (σ := Unit) (fun _=>[(0,.slice xa 0 xc),(3,.int .i64 0),(4,.int .i64 0)]) (fun _=>S::hr) (fun _=>True) (fun _=>0) () trivial ?_
   rintro _ _
   refine cS (cQ (sM Z (sM Z (sV (v_len Z Tryz.underlying23) (sV (v_lss Z Z) (sK [0,3,4,8] Z (cd_false Z ?_)))))))
   refine cd_exit (xE (xE (xY (xT (cQ (sM Z (sA Z (sK [2] Z (cT ?_)))))))))
   exact xt_rt Z ⟨Z,Z⟩ sbq
 | succ d ih =>
  intro az v hd hb hv
  have hml:maxLen=9223372036854775807:=rfl
  have hpl:=partss_len az
  obtain ⟨xa,xc,rfl,hlc,hcm,_⟩:=hv.form
  have hF:∀ (a:Kt) x,a∈az→Tys S x a.args→Reads Tryz.prog 94 #[x] [S] (.int .i64 (partss a.args:Nat)):=fun a x ha h1=>ih a.args x (by have:=depths_mem ha; rw [depth_eq] at this; omega) (by
   have h2:a.parts≤partss az:=by
    obtain ⟨i,hi,rfl⟩:=List.getElem_of_mem ha
    have h3:=partss_take (List.getElem?_eq_getElem hi)
    have h4:=partss_take_le (i+1) az
    omega
   rw [parts_eq] at h2; omega) h1
  refine ct_of (n:=21) Tryz.func94 Z Z (len Z) fun hr w0=>?_
  refine cQ (sA Z (sN (nT (cQ (sA Z (sN (nT (cS (cQ (sA Z (sN (nT (cB ?_)))))))))))))
  refine cd_lq (σ := Nat) (fun i=>[(0,.slice xa az.length xc),(3,.int .i64 (partss (az.take i):Nat)),(4,.int .i64 (i:Nat))]) (fun _=>S::hr) (fun i=>i≤az.length) (fun i=>az.length - i) 0 (Nat.zero_le _) ?_
  rintro i hi
  have hdi:=partss_take_le i az
  refine cS (cQ (sM Z (sM Z (sV (v_len Z Tryz.underlying23) (sV (v_lss Z Z) (sK [0,3,4,8] Z (cC Z (fun hd=>?_) (fun hd=>?_))))))))
  ·have hlt:i<az.length:=by simpa using hd
   have hg:=List.getElem?_eq_getElem hlt
   have hmem:=List.getElem_mem hlt
   obtain ⟨b,o,cap2,us,e1,hus,hrd,hta⟩:=hv.at hg
   cases e1
   have htk:=partss_take hg
   have hdi2:=partss_take_le (i+1) az
   generalize az[i]=x at hg hmem hta htk
   rw [parts_eq] at htk
   obtain ⟨y,rfl,hya⟩:=hta.out
   have hca:=hF x y hmem hya
   obtain ⟨ya,yc,rfl,_⟩:=id hya.form
   unfold tyC at hrd
   refine cK (xT (cS (cB (cR (sM Z (sV (v_add Z Z (by unfold I64 at *; omega)) (sM Z (sM Z (sV (vI (k:=i) Z Z sl23 Z hlt Z) (sV (vF Z fa25_2 Z) (sV (vY Z ld23) ?_)))))))))))
   refine st_clr Z Z en94 Z (hca) ?_
   refine sV (v_add Z Z (by unfold I64 at *; omega)) (sA Z (sN (nK [0,3,4] Z (nx_xt (xB (xT (cR (sM Z (sV (v_add Z Z (by unfold I64 at *; omega)) (sA Z (sN (nK [0,3,4] Z (nx_xt ?_)))))))))))))
   rw [show ((partss (az.take i):Nat):Int)+1+((partss x.args:Nat):Int)=((partss (az.take (i+1)):Nat):Int) by rw [htk]; omega]
   refine xt_aq (i+1) hlt (Nat.sub_lt_sub_left hlt (Nat.lt_succ_self i))
  ·have hil:i=az.length:=by
    have:¬ i<az.length:=by simpa using hd
    omega
   rw [hil,List.take_length]
   refine cd_exit (xE (xE (xY (xT (cQ (sM Z (sA Z (sK [2] Z (cT ?_)))))))))
   exact xt_rt Z ⟨Z,Z⟩ sbq
end
end Go.Hr
