/-
  A deferred function that recovers: interface values compared with nil,asserted. Generic. No condition.
  Data that is read to its end is made of values of one cell. Generic. No condition.
  Package kind: the map of a system; formals by their names; class types. Conditions: what is read.
  Package kind and its reference: class types; formals and classes by their names. Conditions: what is read.
  Package kind: is,actual,inner. Conditions: what is read; right headers.
-/
import Derived.Test.YtaohbfnepjjdgaaGreatM13
import Derived.Test.YtaohbfnepjjdgaaGreatM12
import Derived.Test.YtaohbfnepjjdgaaGreatM10
set_option linter.unusedVariables false
set_option linter.unusedSimpArgs false
namespace Go.Ck
open Go Go.RowKit
section
variable {P:Program} {e:Env} {h:SH} {ty:TypeId}
theorem v_neq_iface_nil {T t' U:TypeId} {x y:Operand} {v:Value} (hx:e.ev? x=some (.iface U v)) (hy:e.ev? y=some .nilIface) (hT:P.underlying T=some (.interface #[])):Vop P e h (.binOp .neq T x y t') ty (.bool true):=
 ⟨by simp,by simp,fun ρ w d pos after g hρ _=>by
  have hq:∀ k,(Op.equalIn (k+1) T (.iface U v) .nilIface).run P w = .ok false w:=fun k=>by simp [Op.equalIn,run_underlying hT]
  simp [execOp,hρ x _ hx,hρ y _ hy,eqGuard,binOp,Op.equal,Op.maxDepth,hq 9999]⟩
theorem v_neq_nil_nil {T t':TypeId} {x:Operand} (hx:e.ev? x=some .nilIface) (hT:P.underlying T=some (.interface #[])):Vop P e h (.binOp .neq T x (.const .nilIface) t') ty (.bool false):=
 ⟨by simp,by simp,fun ρ w d pos after g hρ _=>by
  have hq:∀ k,(Op.equalIn (k+1) T .nilIface .nilIface).run P w = .ok true w:=fun k=>by simp [Op.equalIn,run_underlying hT]
  simp [execOp,hρ x _ hx,hρ (.const .nilIface) .nilIface rfl,eqGuard,binOp,Op.equal,Op.maxDepth,hq 9999]⟩
theorem v_assert {T U:TypeId} {x:Operand} {v:Value} {fs:Array Field} (hx:e.ev? x=some (.iface U v)) (hU:P.underlying U=some (.struct fs)):Vop P e h (.typeAssert x T U true) ty (.tuple #[v,.bool true]):=
 ⟨by simp,by simp,fun ρ w d pos after g hρ _=>by
  simp [execOp,hρ x _ hx,Instr.typeAssert,run_underlying hU]⟩
end
end Go.Ck
namespace Go.Hr
open Go Go.RowKit Go.Ck Go.Proofs Go.Proofs.YtaohbfnepjjdgaaGreat Fx
set_option maxRecDepth 100000 in
theorem catch_pan {b : Nat} {z er : Int} {hr : SH} {w : World} (hh : Holds w (pt b (cl [.int .i64 z] 29) :: hr)) : CallsDIn (Fw none) 0 Tryz.prog 149 #[.pointer (some ⟨b, 0, none⟩)] (.panicking [wrE 194 er]) w fun e u' w' =>
  e = .returned (.tuple #[])∧u' = .panicking [{ wrE 194 er with recovered:=true }]∧Holds w' (pt b (cl [.int .i64 er] 29)::hr)∧Same w w':=by
 refine callsDIn_of_wpSIn Tryz.func149 Z trivial fun c₀ cs hu=>?_
 apply wpSIn_seq
 apply wpSIn_region
 simp [wpOpsSIn,go_sem,recoverD,hu,Exit.thenS,wrE]
 refine wpSIn_of_wpIn Z ((show Cd ⟨Tryz.prog,none,17,[],w⟩ _ _ [(0,.pointer (some ⟨b,0,none⟩)),(1,.iface 194 (.agg #[.int .i64 er]))] (pt b (cl [.int .i64 z] 29)::hr) from ?_) _ w ⟨by simp,Z,fun i v hi=>?_⟩ hh (Same.refl w))
 ·refine cS ?_
  refine cR (sM Z (sV (v_neq_iface_nil Z Z Tryz.underlying20) (sN (nT (cd_true Z ?_)))))
  refine cQ (sM Z (sV (v_assert Z Tryz.underlying194) (sM Z (sV (v_extract Z Z) (sV (v_extract Z Z) (st_alc al194 fun b2=>?_))))))
  refine st_stoW Z Z sz194 Z Z ?_
  refine sA Z (sN (nT (cS (cQ (sM Z (sV (v_not Z) (sN (nT (cd_false Z ?_)))))))))
  refine cK (xT (cR (sV (vF Z fa194_0 Z) (sV (vY Z ld29) ?_))))
  refine st_sto Z Z sz29 ?_
  refine sN ((show Nx _ _ _ (pt b (cl [.int .i64 er] 29)::_) from ?_))
  intro a w' hk hh' hw'
  refine ⟨hk.defers,_,Z,.tuple #[],by simp [results,Tryz.f149],Z,Z,?_,hw'⟩
  exact Holds.sub (by (repeat (refine Sub.sel slq ?_)); (repeat apply Sub.cons); exact Sub.refl _) hh'
 ·simp only [Env.get?] at hi
  by_cases h0:i=0
  ·subst h0; simp at hi; subst hi; simp
  ·by_cases h1:i=1
   ·subst h1
    rw [show Nat.beq 0 1=false from rfl] at hi
    simp at hi
    subst hi; simp
   ·rw [beq_ne (fun e=>h0 e.symm),beq_ne (fun e=>h1 e.symm)] at hi; cases hi
set_option maxRecDepth 100000 in
theorem catch_idle {b:Nat} {h:SH} {w:World} (hh:Holds w h):CallsDIn (Fw none) 0 Tryz.prog 149 #[.pointer (some ⟨b,0,none⟩)] .returning w fun e u' w' =>
  e = .returned (.tuple #[])∧u' = .returning∧Holds w' h∧Same w w':=by
 refine callsDIn_of_wpSIn Tryz.func149 Z trivial fun c₀ cs hu=>?_
 apply wpSIn_seq
 apply wpSIn_region
 simp [wpOpsSIn,go_sem,recoverD,hu,Exit.thenS]
 refine wpSIn_of_wpIn Z ((show Cd ⟨Tryz.prog,none,17,[],w⟩ _ _ [(1,.nilIface)] h from ?_) _ w ⟨by simp,Z,fun i v hi=>?_⟩ hh (Same.refl w))
 ·refine cS ?_
  refine cR (sM Z (sV (v_neq_nil_nil Z Tryz.underlying20) (sN (nT (cd_false Z ?_)))))
  refine cK ?_
  intro a w' hk hh' hw'
  refine ⟨hk.defers,c₀.mode,by cases c₀; rfl,.tuple #[],by simp [results,Tryz.f149],rfl,hu,hh',hw'⟩
 ·simp only [Env.get?] at hi
  by_cases h1:i=1
  ·subst h1; simp at hi; subst hi; simp
  ·rw [beq_ne (fun e=>h1 e.symm)] at hi; cases hi
def CpeF (P:Program) (T:TypeId) (kf:FuncId) (cp:Array Value) (hf:SH) (er:Int):Prop:=Cpe P T kf cp hf er
set_option maxRecDepth 100000 in
theorem caught_ct {kf : FuncId} {cp : Array Value} {hf : SH} {er : Int} (hE : Ck.Enters Tryz.prog kf) (hb : Cpe Tryz.prog 194 kf cp hf er) : Ct Tryz.prog 98 #[.func (.func kf) #[] cp] hf fun u h' => u = .int .i64 er ∧ h' = hf := fun hr w0 hh0 => by
 refine calls_fw (r:=none) (n:=0) (callsIn_of_wp_defers Tryz.func98 Z trivial ?_)
 refine (show Cd ⟨Tryz.prog,none,6,[],w0⟩ _ _ [(0,.func (.func kf) #[] cp)] (hf++hr) from ?_) _ w0 ⟨by simp,Z,fun i v hi=>?_⟩ hh0 (Same.refl w0)
 ·refine cS ?_
  refine cR (st_alc al29 fun b2=>?_)
  refine sN (nT (cS (cd_regP (sV (v_makeFunc Z Z) (sN ?_)))))
  intro a w hk hh hw
  show Go.wpListIn (Fw none) 0 Tryz.prog _ _ [_] a w
  unfold Go.wpListIn
  rw [if_pos (by simp [Region.wanted])]
  refine ⟨fun _ _=>trivial,?_⟩
  show Oper.uponIn (Fw none) 0 Tryz.prog _ a _ _ ((Oper.semAt none a.eval _).run Tryz.prog w)
  rw [Oper.semAt_none]
  have e3:a.eval (.tmp 3) = .func (.func 149) #[] #[.pointer (some ⟨b2,0,none⟩)]:=hk.ev rfl
  have hrun : (execOp a.eval ⟨none, .defer { callee := .value (.tmp 3), args := #[], argTypes := #[] }, 0, "kind.go:183", #[{ on := 0, ground := Ground.data }], none⟩).run Tryz.prog w = .ok (.defer { target := .fn (.func 149) #[.pointer (some ⟨b2, 0, none⟩)], args := #[] }) w := by
   simp [execOp,resolve,e3,Deferred.ofValue]
  rw [hrun,Oper.uponIn_defer]
  unfold Go.wpListIn
  refine (show Cd ⟨Tryz.prog,none,6,[{ target:=.fn (.func 149) #[.pointer (some ⟨b2,0,none⟩)],args := #[] }],w0⟩ _ _ [(0,.func (.func kf) #[] cp),(2,.pointer (some ⟨b2,0,none⟩))] (pt b2 (cl [.int .i64 0] 29)::(hf++hr)) from ?_) _ w ⟨hk.size,by simp [Act.put,hk.defers],fun i v hi=>?_⟩ hh hw
  ·refine cS ?_
   refine cd_regP (sM Z (sN (nx_pan Z Z hE Z (by simpa using hb) (fun hp0=>?_) (fun hp1=>?_) (.of ((List.perm_append_comm (l₁ := [pt b2 (cl [.int .i64 0] 29)]) (l₂ := hf++hr)).trans (by rw [List.append_assoc]))))))
   ·intro a w hk hh hw
    refine (show Cd ⟨Tryz.prog,none,6,[{ target:=.fn (.func 149) #[.pointer (some ⟨b2,0,none⟩)],args := #[] }],w0⟩ _ _ [(2,.pointer (some ⟨b2,0,none⟩))] (pt b2 (cl [.int .i64 0] 29)::(hf++hr)) from ?_) a w (hk.weaken ⟨Z,trivial⟩) hh hw
    refine cQ (st_sto Z Z sz29 ?_)
    refine sN (nT (cT ?_))
    intro a w hk hh hw
    show LeavesIn (Fw none) 0 Tryz.prog _ _ _ a.defers .returning w
    rw [hk.defers]
    refine leavesIn_cons (f:=149) (args := #[.pointer (some ⟨b2,0,none⟩)]) (by simp) (by simp [Fw,Fence.wide]) (by simp [go_sem]) (fun _ _=>trivial) ?_
    refine (catch_idle hh).mono ?_
    rintro e u' w'' ⟨rfl,rfl,hH,hS⟩
    refine ⟨_,run_resultsV hk (.cell1 Z ld29 (at_here (rd_cl Z)) .nil) hH,_,hf,Z,⟨by rw [hp0]; rfl,Z⟩,hH.2.2,hw.trans hS⟩
   ·intro a w hk hh hw
    show LeavesIn (Fw none) 0 Tryz.prog _ _ _ a.defers (.panicking _) w
    rw [hk.defers]
    refine leavesIn_cons (f:=149) (args := #[.pointer (some ⟨b2,0,none⟩)]) (by simp) (by simp [Fw,Fence.wide]) (by simp [go_sem]) (fun _ _=>trivial) ?_
    refine (catch_pan hh).mono ?_
    rintro e u' w'' ⟨rfl,rfl,hH,hS⟩
    refine ⟨_,run_resultsV hk (.cell1 Z ld29 (at_here (rd_cl Z)) .nil) hH,_,hf,Z,⟨Z,Z⟩,hH.2.2,hw.trans hS⟩
  ·simp only [Env.get?] at hi
   by_cases h0:i=0
   ·subst h0
    simp at hi
    subst hi
    exact hk.get 0 _ Z
   ·rw [beq_ne (fun e=>h0 e.symm)] at hi
    simp only [cond_false] at hi
    by_cases h2:i=2
    ·subst h2
     simp at hi
     subst hi
     exact hk.get 2 _ Z
    ·rw [beq_ne (fun e=>h2 e.symm)] at hi; cases hi
 ·simp only [Env.get?] at hi
  by_cases h1:i=0
  ·subst h1; simp at hi; subst hi; simp
  ·rw [beq_ne (fun e=>h1 e.symm)] at hi; cases hi
end Go.Hr
namespace Go.Ck
open Go Go.RowKit Go.ChangeShapes Go.WideShapes
def oneB (P:Program) (L:List TypeId):Bool:=L.all fun t=>match P.underlying t with
 | some (.int _)=>true
 | some .bool=>true
 | some .string=>true
 | some (.slice _)=>true
 | some (.struct fs)=>(List.range (P.cellsOf t)).all fun k=>fs.toList.any fun f=>L.contains f.type && Nat.ble f.offset k && Nat.blt k (f.offset+P.cellsOf f.type)
 | _=>false
theorem Gd.one {H : Type} {enc : TypeId × Value → H} {P : Program} {W : World} {L : List TypeId} (hL : oneB P L = true) : ∀ (n : Nat) (t : TypeId) (cs : List Value), t ∈ L → Gd enc P W n t cs → ∀ u ∈ cs, u.oneCell' = true
 | 0,t,cs,_,⟨x,h,_⟩=>by simp [DataW.trod] at h
 | n + 1, t, cs, ht, hg => by
  have hc:=List.all_eq_true.1 hL t ht
  obtain ⟨x,h,hz⟩:=id hg
  cases hu:P.underlying t with
  | none=>rw [hu] at hc; cases hc
  | some d =>
   rw [hu] at hc
   cases d with
   | int k=>obtain ⟨q,rfl,_⟩:=DataW.trod_int hu h; intro u hm; simp at hm; subst hm; rfl
   | bool=>obtain ⟨q,rfl,_⟩:=DataW.trod_bool hu h; intro u hm; simp at hm; subst hm; rfl
   | string=>obtain ⟨q,rfl,_⟩:=DataW.trod_string hu h; intro u hm; simp at hm; subst hm; rfl
   | slice e =>
    rcases DataW.trod_slice hu h with ⟨rfl,_⟩ | ⟨a,len,cap,_,_,_,_,rfl,_⟩ <;> (intro u hm; simp at hm; subst hm; rfl)
   | struct fs =>
    obtain ⟨m,hm,hcl,hf⟩:=hg.struct hu
    obtain rfl:n=m:=by omega
    intro u hu2
    obtain ⟨k,hk,rfl⟩:=List.getElem_of_mem hu2
    have h1:=List.all_eq_true.1 hc k (List.mem_range.2 (by omega))
    obtain ⟨f,hfm,h2⟩:=List.any_eq_true.1 h1
    simp only [Bool.and_eq_true] at h2
    obtain ⟨⟨h3,h4⟩,h5⟩:=h2
    have h4:=Nat.le_of_ble_eq_true h4
    have h5:k<f.offset+P.cellsOf f.type:=Nat.lt_of_succ_le (by simpa [Nat.blt] using h5)
    obtain ⟨i,hi⟩:=List.getElem?_of_mem hfm
    refine Gd.one hL n f.type _ (by simpa using h3) (hf i f (by simpa using hi)) _ ?_
    refine List.mem_iff_getElem?.2 ⟨k - f.offset,?_⟩
    rw [List.getElem?_take,if_pos (by omega),List.getElem?_drop,show f.offset+(k - f.offset)=k by omega,List.getElem?_eq_getElem hk]
   | _=>cases hc
/-! ## The same, out of any resource -/
section
variable (P:Program)
def Gr (S:Res):Nat→TypeId→List Value→Prop
 | 0,_,_=>False
 | n+1,t,cs=>match P.underlying t with
  | some (.int _)=>∃ v,cs=[v]∧v.oneCell'=true
  | some .bool=>∃ v,cs=[v]∧v.oneCell'=true
  | some .string=>∃ v,cs=[v]∧v.oneCell'=true
  | some (.slice e)=>∃ (l:List Unit) (v:Value),cs=[v]∧Row S (P.cellsOf e) (fun us _=>Gr S n e us) v l∧l.length * P.bytesOf e≤reachBytes
  | some (.struct fs)=>cs.length=P.cellsOf t∧∀ (i:Nat) (f:Field),fs[i]? = some f→Gr S n f.type ((cs.drop f.offset).take (P.cellsOf f.type))
  | _=>False
def kinB (L:List TypeId):Bool:=L.all fun t=>match P.underlying t with
 | some (.int _)=>true
 | some .bool=>true
 | some .string=>true
 | some (.slice e)=>L.contains e && Nat.blt 0 (P.cellsOf e)
 | some (.struct fs)=>fs.toList.all fun f=>L.contains f.type
 | _=>false
def flatB (L:List TypeId):Bool:=L.all fun t=>match P.underlying t with
 | some (.int _)=>true
 | some .bool=>true
 | some .string=>true
 | some (.struct fs)=>fs.toList.all fun f=>L.contains f.type
 | _=>false
inductive Gall (S:Res) (n:Nat) (cs:List Value):List Field→Prop
 | nil:Gall S n cs []
 | cons {f:Field} {fs:List Field}:Gr P S n f.type ((cs.drop f.offset).take (P.cellsOf f.type))→Gall S n cs fs→Gall S n cs (f::fs)
end
section
variable {P:Program} {S T:Res}
theorem Gr.row {n:Nat} {t e:TypeId} {v:Value} (h:Gr P S n t [v]) (hu:P.underlying t=some (.slice e)):∃ (m:Nat) (l:List Unit),n=m+1∧Row S (P.cellsOf e) (fun us _=>Gr P S m e us) v l∧l.length * P.bytesOf e≤reachBytes:=by
 cases n with
 | zero=>exact h.elim
 | succ n =>
  simp only [Gr,hu] at h
  obtain ⟨l,v',h1,h2,h3⟩:=h
  cases h1
  exact ⟨n,l,Z,h2,h3⟩
theorem Gr.slice {n : Nat} {t e : TypeId} {v : Value} (h : Gr P S n t [v]) (hu : P.underlying t = some (.slice e)) (_ : 0 < P.cellsOf e) :
  [v]=[Value.slice none 0 0]∨∃ a len cap m,n=m+1∧[v]=[Value.slice (some a) len cap]∧len≤cap∧cap≤maxLen∧len * P.bytesOf e≤reachBytes ∧
   ∀ i,i<len→∃ b o us,a=⟨b,o,none⟩∧us.length=P.cellsOf e∧Rds S b (o+i * P.cellsOf e) us∧Gr P S m e us:=by
 obtain ⟨m,l,hm,⟨a,cap,rfl,h1,h2,h3,h4⟩,hb⟩:=h.row hu
 cases a with
 | none =>
  have hc:=h3 rfl
  subst hc
  rw [show l.length=0 by omega]
  exact .inl Z
 | some a =>
  refine .inr ⟨a,l.length,cap,m,hm,Z,h1,h2,hb,fun i hi=>?_⟩
  obtain ⟨b,o,us,e1,e2,e3,e4⟩:=h4 i _ (List.getElem?_eq_getElem hi)
  exact ⟨b,o,us,Option.some.inj e1,e2,e3,e4⟩
theorem Gr.struct {n:Nat} {t:TypeId} {fs:Array Field} {cs:List Value} (h:Gr P S n t cs) (hu:P.underlying t=some (.struct fs)) :
  ∃ m,n=m+1∧cs.length=P.cellsOf t∧∀ (i:Nat) (f:Field),fs[i]? = some f→Gr P S m f.type ((cs.drop f.offset).take (P.cellsOf f.type)):=by
 cases n with
 | zero=>exact h.elim
 | succ n =>
  simp only [Gr,hu] at h
  exact ⟨n,Z,h⟩
theorem Gall.at {n:Nat} {cs:List Value}:∀ {fs:List Field},Gall P S n cs fs→∀ (i:Nat) (f:Field),fs[i]? = some f→Gr P S n f.type ((cs.drop f.offset).take (P.cellsOf f.type))
 | _,.nil,i,f,h=>by simp at h
 | _,.cons h _,0,f,hf=>by simp at hf; subst hf; exact h
 | _,.cons _ ht,i+1,f,hf=>ht.at i f (by simpa using hf)
theorem Gr.mk {n k:Nat} {t:TypeId} {fs:Array Field} {cs:List Value} (hu:P.underlying t=some (.struct fs)) (hk:P.cellsOf t=k) (hl:cs.length=k) (h:Gall P S n cs fs.toList):Gr P S (n+1) t cs:=by
 subst hk
 simp only [Gr,hu]
 exact ⟨hl,fun i f hf=>h.at i f (by simpa using hf)⟩
theorem Gr.mono (hr : ∀ p u, Rd S p u → Rd T p u) : ∀ {n : Nat} {t : TypeId} {cs : List Value}, Gr P S n t cs → Gr P T n t cs
 | 0,_,_,h=>h.elim
 | n + 1, t, cs, h => by
  unfold Gr at h ⊢
  cases hu:P.underlying t with
  | none=>rw [hu] at h; exact h.elim
  | some d =>
   rw [hu] at h
   cases d with
   | int k=>exact h
   | bool=>exact h
   | string=>exact h
   | slice e =>
    obtain ⟨l,v,h1,h2,h3⟩:=h
    exact ⟨l,v,h1,h2.mono hr fun _ _ _ h=>Gr.mono hr h,h3⟩
   | struct fs=>exact ⟨h.1,fun i f hf=>Gr.mono hr (h.2 i f hf)⟩
   | _=>exact h.elim
theorem Gr.up : ∀ {n : Nat} {t : TypeId} {cs : List Value}, Gr P S n t cs → Gr P S (n + 1) t cs
 | 0,_,_,h=>h.elim
 | n + 1, t, cs, h => by
  unfold Gr at h ⊢
  cases hu:P.underlying t with
  | none=>rw [hu] at h; exact h.elim
  | some d =>
   rw [hu] at h
   cases d with
   | int k=>exact h
   | bool=>exact h
   | string=>exact h
   | slice e =>
    obtain ⟨l,v,h1,h2,h3⟩:=h
    exact ⟨l,v,h1,h2.mono (fun _ _ h=>h) fun _ _ _ h=>Gr.up h,h3⟩
   | struct fs=>exact ⟨h.1,fun i f hf=>Gr.up (h.2 i f hf)⟩
   | _=>exact h.elim
theorem Gr.one {L : List TypeId} (hL : oneB P L = true) : ∀ (n : Nat) (t : TypeId) (cs : List Value), t ∈ L → Gr P S n t cs → ∀ u ∈ cs, u.oneCell' = true
 | 0,t,cs,_,h=>h.elim
 | n + 1, t, cs, ht, hg => by
  have hc:=List.all_eq_true.1 hL t ht
  have h:=hg
  unfold Gr at h
  cases hu:P.underlying t with
  | none=>rw [hu] at hc; cases hc
  | some d =>
   rw [hu] at hc h
   cases d with
   | int k=>obtain ⟨q,rfl,hq⟩:=h; intro u hm; simp at hm; subst hm; exact hq
   | bool=>obtain ⟨q,rfl,hq⟩:=h; intro u hm; simp at hm; subst hm; exact hq
   | string=>obtain ⟨q,rfl,hq⟩:=h; intro u hm; simp at hm; subst hm; exact hq
   | slice e =>
    obtain ⟨l,v,rfl,⟨a,cap,rfl,_⟩,_⟩:=h
    intro u hm; simp at hm; subst hm; rfl
   | struct fs =>
    obtain ⟨hcl,hf⟩:=h
    intro u hu2
    obtain ⟨k,hk,rfl⟩:=List.getElem_of_mem hu2
    have h1:=List.all_eq_true.1 hc k (List.mem_range.2 (by omega))
    obtain ⟨f,hfm,h2⟩:=List.any_eq_true.1 h1
    simp only [Bool.and_eq_true] at h2
    obtain ⟨⟨h3,h4⟩,h5⟩:=h2
    have h4:=Nat.le_of_ble_eq_true h4
    have h5:k<f.offset+P.cellsOf f.type:=Nat.lt_of_succ_le (by simpa [Nat.blt] using h5)
    obtain ⟨i,hi⟩:=List.getElem?_of_mem hfm
    refine Gr.one hL n f.type _ (by simpa using h3) (hf i f (by simpa using hi)) _ ?_
    refine List.mem_iff_getElem?.2 ⟨k - f.offset,?_⟩
    rw [List.getElem?_take,if_pos (by omega),List.getElem?_drop,show f.offset+(k - f.offset)=k by omega,List.getElem?_eq_getElem hk]
   | _=>cases hc
theorem Gr.cut {n o k:Nat} {t:TypeId} {us vs:List Value} (h:Gr P S n t vs) (hk:P.cellsOf t=k) (he:(us.drop o).take k=vs):Gr P S n t ((us.drop o).take (P.cellsOf t)):=by
 rw [hk,he]; exact h
end
end Go.Ck
namespace Go.Ck
open Go Go.RowKit
theorem v_field1 {P:Program} {e:Env} {h:SH} {ty T:TypeId} {x:Operand} {cs:List Value} {fs:Array Field} {k:Nat} {f:Field} {u:Value} (hx:e.ev? x=some (.agg cs.toArray)) (hT:P.underlying T=some (.struct fs)) (hf:fs[k]? = some f) (hA:∀ w,(isAgg f.type).run P w = .ok false w) (hu:cs[f.offset]? = some u):Vop P e h (.field T x k) ty u :=
 ⟨by simp,by simp,fun ρ w d pos after g hρ _=>by
  simp only [execOp,hρ x _ hx,Instr.field,Sem.run_bind,run_underlying hT,Result.andThen_ok,hf,part,asAgg,Sem.run_pure,hA]
  simp [hu]⟩
end Go.Ck
namespace Go.Hr
open Go Go.RowKit Go.Ck Go.Proofs Go.Proofs.YtaohbfnepjjdgaaGreat Fx
attribute [local irreducible] Go.Ck.Sub St Cd Xt Nx DrL LsW
def ixD (o:Option Nat):Int:=match o with | some i=>i | none => -1
def KMap (S:Res) (m:List (Bs×Value)) (l:KS):Prop:=∀ c,(kfind l c=none→slook m c=none)∧∀ x,kfind l c=some x→∃ us,slook m c=some (.agg us.toArray)∧kclsC S us x
def fmA (f:Fm):List Value:=[sv f.name,sv f.bound]
def fm0:Fm:=⟨[],[]⟩
def fmAt (F:List Fm) (n:Nm):Option Fm:=(fidx F n).bind (F[·]?)
section
variable {S N:Res} {v:Value} {F:List Fm} {kf:FuncId} {cp:Array Value} {g:Fm→Bool} {l:KS} {m:List (Bs×Value)} {mb:Nat} {t:Kt}
theorem KMap.mono {T:Res} (hr:∀ p u,Rd S p u→Rd T p u) (h:KMap S m l):KMap T m l:=fun c=>⟨(h c).1,fun x hx=>let ⟨us,h1,h2⟩:=(h c).2 x hx; ⟨us,h1,h2.mono hr⟩⟩
theorem fm_at (hv:Row S 2 fmC v F) {i:Nat} {f:Fm} (hi:F[i]? = some f):∃ b o cap,v = .slice (some ⟨b,o,none⟩) F.length cap∧Rds S b (o+i * 2) (fmA f):=by
 obtain ⟨b,o,cap,us,h1,_,h3,h4⟩:=Row.at hv hi
 exact ⟨b,o,cap,h1,by rw [← show us=fmA f from h4]; exact h3⟩
set_option maxRecDepth 100000 in
theorem IdxF_ct (hv : Row S 2 fmC v F) (hE : Ck.Enters Tryz.prog kf) (hf : ∀ f ∈ F, Reads Tryz.prog kf (#[] ++ [.agg (fmA f).toArray].toArray ++ cp) [N] (.bool (g f))) : Reads Tryz.prog 62 #[v, .func (.func kf) #[] cp] [S, N] (.int .i64 (ixD (F.findIdx? g))) := by
 have hml:maxLen=9223372036854775807:=rfl
 obtain ⟨a,cap,rfl,hlc,hcm,_⟩:=id hv
 refine ct_of (n:=19) Tryz.func62 Z Z (len Z) fun hr w0=>?_
 refine cQ (sA Z (sN (nT (cS (cQ (sM Z (sV (v_len Z Tryz.underlying48) (sM Z (sK [0,1,4,7,8] Z (cB (cd_lq (σ := Nat) (fun i=>[(0,.slice a F.length cap),(1,.func (.func kf) #[] cp),(7,.int .i64 F.length),(8,.int .i64 (i:Nat))]) (fun _=>S::N::hr) (fun i=>i≤F.length∧∀ j (hj:j<F.length),j<i→g F[j]=false) (fun i=>F.length - i) 0 ⟨Nat.zero_le _,fun j _ hj=>absurd hj (Nat.not_lt_zero _)⟩ ?_)))))))))))
 rintro i ⟨hi,hal⟩
 refine cQ (sV (v_lss Z Z) (sN (nT (cS (cC Z (fun hd=>?_) (fun hd=>?_))))))
 ·have hlt:i<F.length:=by simpa using hd
  obtain ⟨b,o,cap2,e1,hrd⟩:=fm_at hv (List.getElem?_eq_getElem hlt)
  cases e1
  have hfx:=hf F[i] (List.getElem_mem hlt)
  unfold fmA at hrd hfx
  refine cK (xT (cS (cB (cQ (sM Z (sA Z (sK [0,1,5,7,8] Z (cQ (sM Z (sM Z (sM Z ?_)))))))))))
  refine sV (vI (k:=i) Z Z sl48 Z hlt Z) (sV (v_ldn Z ld94 Z hrd) ?_)
  refine st_clr Z Z hE Z (hfx) ?_
  refine sK [0,1,5,7,8,16] Z (cC Z (fun he=>?_) (fun he=>?_))
  ·have he:g F[i]=true:=he
   rw [show F.findIdx? g=some i by
    rw [List.findIdx?_eq_some_iff_getElem]
    exact ⟨hlt,he,fun j hj=>by rw [hal j (by omega) hj]; decide⟩]
   refine cQ (sM Z (sA Z (sK [4] Z (cT (xW (xR (xR (xW (xR ?_)))))))))
   exact xt_rt Z ⟨Z,Z⟩ sbq
  ·have he:g F[i]=false:=he
   refine cK (xB (xT (cR (sV (v_add Z Z (by unfold I64 at *; omega)) (sM Z (sN (nK [0,1,7,8] Z (nx_xt (xt_aq (i+1) ⟨hlt,fun j hj hj2=>?_⟩ (Nat.sub_lt_sub_left hlt (Nat.lt_succ_self i)))))))))))
   by_cases hji:j=i
   ·subst hji; exact he
   ·exact hal j hj (by omega)
 ·have hil:i=F.length:=by
   have:¬ i<F.length:=by simpa using hd
   omega
  rw [show F.findIdx? g=none by
   rw [List.findIdx?_eq_none_iff]
   intro f hfm
   obtain ⟨j,hj,rfl⟩:=List.getElem_of_mem hfm
   exact hal j hj (by omega)]
  refine cd_exit (xE (xE (xY (xT (cQ (sA Z (sK [4] Z (cT ?_))))))))
  exact xt_rt Z ⟨Z,Z⟩ sbq
set_option maxRecDepth 100000 in
theorem tell108_ct {f:Fm} {b:Nat} {n:Nm}:Reads Tryz.prog 108 #[.agg (fmA f).toArray,.pointer (some ⟨b,0,none⟩)] [pt b (cl [sv n] 9)] (.bool (f.name == n)):=by
 unfold fmA
 refine ct_of (n:=8) Tryz.func108 Z Z (len Z) fun hr w0=>?_
 refine cQ (st_bx Z Z fun b2=>?_)
 refine sA Z (sK [1,2,3] Z (cQ (sV (vF Z fa94_0 Z) (sV (vY Z ld9) ?_))))
 refine sV (vY Z ld9) ?_
 refine sV (v_seql Z Z) (sA Z (sK [3] Z (cT ?_)))
 exact xt_rt Z ⟨Z,Z⟩ sbq
set_option maxRecDepth 100000 in
theorem tell63_ct {f:Fm} {b:Nat} {x:Value}:Reads Tryz.prog 63 #[.agg (fmA f).toArray,.pointer (some ⟨b,0,none⟩)] [pt b (cl (tyC t x) 25)] (.bool (f.name == t.name)):=by
 unfold fmA tyC
 refine ct_of (n:=9) Tryz.func63 Z Z (len Z) fun hr w0=>?_
 refine cQ (st_bx Z Z fun b2=>?_)
 refine sA Z (sK [1,2,3] Z (cQ (sV (vF Z fa94_0 Z) (sV (vY Z ld9) ?_))))
 refine sV (vF Z fa25_1 Z) (sV (vY Z ld9) ?_)
 refine sV (v_seql Z Z) (sA Z (sK [3] Z (cT ?_)))
 exact xt_rt Z ⟨Z,Z⟩ sbq
set_option maxRecDepth 100000 in
theorem tell134_ct {f g:Fm} {b:Nat}:Reads Tryz.prog 134 #[.agg (fmA g).toArray,.pointer (some ⟨b,0,none⟩)] [pt b (cl (fmA f) 94)] (.bool (g.name == f.name)):=by
 unfold fmA
 refine ct_of (n:=9) Tryz.func134 Z Z (len Z) fun hr w0=>?_
 refine cQ (st_bx Z Z fun b2=>?_)
 refine sA Z (sK [1,2,3] Z (cQ (sV (vF Z fa94_0 Z) (sV (vY Z ld9) ?_))))
 refine sV (vF Z fa94_0 Z) (sV (vY Z ld9) ?_)
 refine sV (v_seql Z Z) (sA Z (sK [3] Z (cT ?_)))
 exact xt_rt Z ⟨Z,Z⟩ sbq
def cls0:Value:=.agg #[.string ⟨#[]⟩,.bool false,.slice none 0 0,.slice none 0 0,.slice none 0 0,.slice none 0 0,.slice none 0 0]
theorem map_cls (hM:KMap S m l) (c:Nm):∃ d0 d f pv c2 fs i,(slook m c).getD cls0 = .agg ([d0,d,f,pv,c2,fs,i]:List Value).toArray∧Row S 2 fmC f (fmsOf l c):=by
 cases hk:kfind l c with
 | none =>
  rw [(hM c).1 hk]
  exact ⟨_,_,_,_,_,_,_,Z,by unfold fmsOf; rw [hk]; exact Row.nil⟩
 | some x =>
  obtain ⟨us,h1,d,f,pv,c2,fa,fc,i,rfl,_,h2,_⟩:=(hM c).2 x hk
  rw [h1]
  exact ⟨_,_,_,_,_,_,_,Z,by rw [fmsOf_some hk]; exact h2⟩
theorem fidx_at {n:Nm} {i:Nat} (h:fidx F n=some i):∃ hi:i<F.length,fmAt F n=some F[i]:=by
 have hi:=(List.findIdx?_eq_some_iff_getElem.1 h).1
 exact ⟨hi,by unfold fmAt; rw [h,Option.bind_some,List.getElem?_eq_getElem hi]⟩
theorem fmAt_none {n:Nm} (h:fidx F n=none):fmAt F n=none:=by unfold fmAt; rw [h]; rfl
set_option maxRecDepth 100000 in
theorem formal_ct (hM:KMap S m l) (c n:Nm):Reads Tryz.prog 65 #[.map (some mb),sv c,sv n] [mps mb m,S] (.tuple #[.agg (fmA ((fmAt (fmsOf l c) n).getD fm0)).toArray,.bool (fmAt (fmsOf l c) n).isSome]):=by
 obtain ⟨d0,d,f,pv,c2,fs,i,hlk,hrow⟩:=map_cls hM c
 obtain ⟨fa,fcap,rfl,_⟩:=id hrow
 unfold fmA fm0
 refine ct_of (n:=24) Tryz.func65 Z Z (len Z) fun hr w0=>?_
 refine cQ (st_bx Z Z fun b5=>?_)
 refine st_alc al94 fun b6=>?_
 refine sA Z (sK [0,1,5,6,7] Z (cQ (sM Z (sM Z (sV (v_is hlk (v_slookup Z Z mp83 inf54 slq)) ?_)))))
 refine sV (v_field1 Z Tryz.underlying54 Z (fun w=>by simp [isAgg,run_underlying Tryz.underlying48]) Z) ?_
 refine sA Z (sK [5,6,7,8] Z (cQ (sM Z (sV (v_makeFunc Z Z) (st_clr Z Z en62 Z (IdxF_ct (N:=pt b5 (cl [sv n] 9)) (g:=fun f=>f.name == n) hrow en108 (fun f _=>tell108_ct)) ?_)))))
 refine sA Z (sK [6,7,8,9] Z (cS (cQ (sM Z (sV (v_lss Z Z) (sK [6,7,8,9,18] Z ?_))))))
 cases hfi:fidx (fmsOf l c) n with
 | none =>
  rw [fmAt_none hfi,show List.findIdx? (fun f=>f.name == n) (fmsOf l c)=none from hfi]
  refine cd_true Z ?_
  refine cQ (sV (v_build (cells:=[sv [],sv []]) Z (fun _=>by kernel_rfl)) ?_)
  refine st_stoW Z Z sz94 Z Z ?_
  refine sA Z (sK [6,7] Z (cT (xR ?_)))
  exact xt_retV (.cellN Z ld94 Z slq (.tmp Z .nil)) ⟨Z,Z⟩ sbr
 | some j =>
  obtain ⟨hj,hat⟩:=fidx_at hfi
  rw [hat,show List.findIdx? (fun f=>f.name == n) (fmsOf l c)=some j from hfi]
  obtain ⟨b,o,cap2,e1,hrd⟩:=fm_at hrow (List.getElem?_eq_getElem hj)
  cases e1
  unfold fmA at hrd
  rw [show decide (ixD (some j)<0)=false from decide_eq_false (by show ¬ ((j:Int)<0); omega)]
  refine cd_false Z ?_
  refine cK (xT (cQ (sM Z (sM Z (sV (vI (k:=j) Z Z sl48 Z hj Z) (sV (v_ldn Z ld94 Z hrd) ?_))))))
  refine st_stoW Z Z sz94 Z Z ?_
  refine sA Z (sK [6,7] Z (cT ?_))
  exact xt_retV (.cellN Z ld94 Z slq (.tmp Z .nil)) ⟨Z,Z⟩ sbr
end
end Go.Hr
namespace Go.Hr
open Go Go.RowKit Go.Ck Go.Proofs Go.Proofs.YtaohbfnepjjdgaaGreat Fx
attribute [local irreducible] Go.Ck.Sub St Cd Xt Nx DrL LsW
def ctK (F:List Fm) (t:Kt):Kt:=if t.kind=3 then t else if t.kind=4 then .mk 3 ((fmAt F t.name).getD fm0).bound [] t.void t.sep else .mk 0 [] [] false false
def ctV (t:Kt) (x:Value):Value:=if t.kind=3 then x else .slice none 0 0
def ctB (F:List Fm) (t:Kt):Bool:=t.kind == 3 || (t.kind == 4 && (fmAt F t.name).isSome)
section
variable {S N:Res} {v:Value} {F:List Fm} {l:KS} {m:List (Bs×Value)} {mb:Nat} {t:Kt}
theorem boundOf_fm {n:Nm}:boundOf F n=((fmAt F n).getD fm0).bound:=by
 unfold boundOf fmAt
 cases (fidx F n).bind (F[·]?) <;> rfl
theorem ctK_name:t.kind=3∨t.kind=4→(ctK F t).name=ctName F t∧(ctK F t).args=ctArgs t∧(ctK F t).kind=3:=fun h=>by
 unfold ctK ctName ctArgs
 rcases h with h | h
 ·rw [if_pos h,if_neg (by omega),if_neg (by omega)]; exact ⟨rfl,rfl,h⟩
 ·rw [if_neg (by omega),if_pos h,if_pos h,if_pos h,boundOf_fm]; exact ⟨rfl,rfl,rfl⟩
theorem ctK_ty {x:Value} (hx:Tys S x t.args):Ty S (tyC (ctK F t) (ctV t x)) (ctK F t):=by
 unfold ctK ctV
 by_cases h3:t.kind=3
 ·rw [if_pos h3,if_pos h3]; exact Ty.of rfl hx
 ·rw [if_neg h3,if_neg h3]
  by_cases h4:t.kind=4
  ·rw [if_pos h4]; exact Ty.of rfl Tys.nil
  ·rw [if_neg h4]; exact Ty.of rfl Tys.nil
set_option maxRecDepth 100000 in
theorem classType_ct (hM : KMap S m l) (c : Nm) {va : Option Addr} {vn vc : Nat} {xa : Option Addr} {xn xc : Nat} : Reads Tryz.prog 76 #[.agg #[.map (some mb), .slice va vn vc], sv c, .agg (tyC t (.slice xa xn xc)).toArray] [mps mb m, S] (.tuple #[.agg (tyC (ctK (fmsOf l c) t) (ctV t (.slice xa xn xc))).toArray, .bool (ctB (fmsOf l c) t)]) := by
 by_cases h3:t.kind=3
 ·rw [show ctK (fmsOf l c) t=t from if_pos h3,show ctV t (.slice xa xn xc) = .slice xa xn xc from if_pos h3,show ctB (fmsOf l c) t=true by unfold ctB; rw [h3]; rfl]
  unfold tyC
  rw [h3]
  refine ct_of (n:=33) Tryz.func76 Z Z (len Z) fun hr w0=>?_
  refine cQ (st_bx Z Z fun b3=>?_)
  refine st_bx Z Z fun b5=>?_
  refine st_alc al25 fun b6=>?_
  refine sA Z (sK [1,3,5,6,7] Z (cS (cQ (sV (vF Z fa25_0 Z) (sV (vY Z ld3) ?_)))))
  refine sK [1,3,5,6,7,11] Z (cB (cQ (sV (v_eql Z Z) (sA Z (sK [1,3,5,6,7,11,12] Z (cd_true Z ?_))))))
  refine cQ (sV (v_ldn Z ld25 Z rds_pt) ?_)
  refine st_stoW Z Z sz25 Z Z ?_
  refine sA Z (sK [6,7] Z (cT (xW (xR ?_))))
  exact xt_retV (.cellN Z ld25 Z slq (.tmp Z .nil)) ⟨Z,Z⟩ sbr
 ·by_cases h4:t.kind=4
  ·rw [show ctK (fmsOf l c) t = .mk 3 ((fmAt (fmsOf l c) t.name).getD fm0).bound [] t.void t.sep by unfold ctK; rw [if_neg h3,if_pos h4],show ctV t (.slice xa xn xc) = .slice none 0 0 from if_neg h3,show ctB (fmsOf l c) t=(fmAt (fmsOf l c) t.name).isSome by unfold ctB; rw [h4]; rfl]
   unfold tyC
   rw [h4]
   refine ct_of (n:=33) Tryz.func76 Z Z (len Z) fun hr w0=>?_
   refine cQ (st_bx Z Z fun b3=>?_)
   refine st_bx Z Z fun b5=>?_
   refine st_alc al25 fun b6=>?_
   refine sA Z (sK [1,3,5,6,7] Z (cS (cQ (sV (vF Z fa25_0 Z) (sV (vY Z ld3) ?_)))))
   refine sK [1,3,5,6,7,11] Z (cB (cQ (sV (v_eql Z Z) (sA Z (sK [1,3,5,6,7,11,12] Z (cd_false Z ?_))))))
   refine cQ (sV (v_eql Z Z) (sA Z (sK [1,3,5,6,7,15] Z (cd_true Z ?_))))
   refine cQ (sV (vF Z fa85_0 Z) (sV (vY Z ld83) ?_))
   refine sM Z (sV (vF Z fa25_1 Z) (sV (vY Z ld9) ?_))
   refine st_clr Z Z en65 Z (formal_ct hM c t.name) ?_
   unfold fmA
   refine sM Z (sV (v_extract Z Z) (sV (v_extract Z Z) (st_alc al94 fun b8=>?_)))
   refine st_stoW Z Z sz94 Z Z ?_
   refine sA Z (sK [5,6,7,8,9] Z (cS (cd_drawh (ork [(0,2),(1,1),(2,1),(3,1),(4,1),(5,2),(6,0),(7,2)] .nil) (fun i => !(Nat.beq i 6)) mixed (by kernel_rfl) ?_)))
   refine dV Z (vF Z fa94_1 Z) (dr_v Z (vY Z ld9) ?_)
   refine dr_clr Z Z Z en106 Z (class_ct) ?_
   refine dr_v Z (v_ldn Z ld25 Z rds_pt) ?_
   refine dr_clr Z Z Z en105 Z (with_raw) ?_
   refine dV Z (vM Z) (dr_eff Z (st_stoW Z Z sz25 Z Z (dr_nx ?_)))
   refine dV Z (vA Z) (dr_nil (nK [6,7] Z (nT (cT (xW (xR ?_))))))
   exact xt_retV (.cellN Z ld25 Z slq (.tmp Z .nil)) ⟨Z,Z⟩ sbr
  ·rw [show ctK (fmsOf l c) t = .mk 0 [] [] false false by unfold ctK; rw [if_neg h3,if_neg h4],show ctV t (.slice xa xn xc) = .slice none 0 0 from if_neg h3,show ctB (fmsOf l c) t=false by unfold ctB; simp [h3,h4]]
   unfold tyC
   refine ct_of (n:=33) Tryz.func76 Z Z (len Z) fun hr w0=>?_
   refine cQ (st_bx Z Z fun b3=>?_)
   refine st_bx Z Z fun b5=>?_
   refine st_alc al25 fun b6=>?_
   refine sA Z (sK [1,3,5,6,7] Z (cS (cQ (sV (vF Z fa25_0 Z) (sV (vY Z ld3) ?_)))))
   refine sK [1,3,5,6,7,11] Z (cB (cQ (sV (v_eql Z Z) (sA Z (sK [1,3,5,6,7,11,12] Z ?_)))))
   rw [show (t.kind == 3)=false by simpa using h3]
   refine cd_false Z ?_
   refine cQ (sV (v_eql Z Z) (sA Z (sK [1,3,5,6,7,15] Z ?_)))
   rw [show (t.kind == 4)=false by simpa using h4]
   refine cd_false Z ?_
   refine cK (xB (xT (cQ (sV (v_build (cells:=[.int .i64 0,sv [],.slice none 0 0,.bool false,.bool false]) Z (fun _=>by kernel_rfl)) ?_))))
   refine st_stoW Z Z sz25 Z Z ?_
   refine sA Z (sK [6,7] Z (cT ?_))
   exact xt_retV (.cellN Z ld25 Z slq (.tmp Z .nil)) ⟨Z,Z⟩ sbr
/-! ## The reference -/
set_option maxRecDepth 100000 in
theorem formalR_ct (hv : Row S 2 fmC v F) (n : Nm) : Reads Tryz.prog 66 #[v, sv n] [S] (.int .i64 (ixD (fidx F n))) := by
 have hml:maxLen=9223372036854775807:=rfl
 obtain ⟨a,cap,rfl,hlc,hcm,_⟩:=id hv
 refine ct_of (n:=20) Tryz.func66 Z Z (len Z) fun hr w0=>?_
 refine cQ (sA Z (sN (nT (cS (cQ (sA Z (sN (nT (cB (cd_lq (σ := Nat) (fun i=>[(0,.slice a F.length cap),(1,sv n),(5,.int .i64 (i:Nat))]) (fun _=>S::hr) (fun i=>i≤F.length∧∀ j (hj:j<F.length),j<i→((F[j]).name == n)=false) (fun i=>F.length - i) 0 ⟨Nat.zero_le _,fun j _ hj=>absurd hj (Nat.not_lt_zero _)⟩ ?_))))))))))
 rintro i ⟨hi,hal⟩
 refine cS (cQ (sM Z (sM Z (sV (v_len Z Tryz.underlying48) (sV (v_lss Z Z) (sK [0,1,5,9] Z (cC Z (fun hd=>?_) (fun hd=>?_))))))))
 ·have hlt:i<F.length:=by simpa using hd
  obtain ⟨b,o,cap2,e1,hrd⟩:=fm_at hv (List.getElem?_eq_getElem hlt)
  cases e1
  unfold fmA at hrd
  refine cK (xT (cS (cB (cQ (sM Z (sM Z (sV (vI (k:=i) Z Z sl48 Z hlt Z) (sV (vF Z fa94_0 Z) (sV (vY Z ld9) ?_)))))))))
  refine sM Z (sV (v_seql Z Z) (sK [0,1,5,18] Z (cC Z (fun he=>?_) (fun he=>?_))))
  ·rw [show fidx F n=some i by
    unfold fidx
    rw [List.findIdx?_eq_some_iff_getElem]
    exact ⟨hlt,he,fun j hj=>by rw [hal j (by omega) hj]; decide⟩]
   refine cQ (sM Z (sA Z (sK [4] Z (cT (xW (xR (xR (xW (xR ?_)))))))))
   exact xt_rt Z ⟨Z,Z⟩ sbq
  ·refine cK (xB (xT (cR (sM Z (sV (v_add Z Z (by unfold I64 at *; omega)) (sA Z (sN (nK [0,1,5] Z (nx_xt (xt_aq (i+1) ⟨hlt,fun j hj hj2=>?_⟩ (Nat.sub_lt_sub_left hlt (Nat.lt_succ_self i))))))))))))
   by_cases hji:j=i
   ·subst hji; exact he
   ·exact hal j hj (by omega)
 ·have hil:i=F.length:=by
   have:¬ i<F.length:=by simpa using hd
   omega
  rw [show fidx F n=none by
   unfold fidx
   rw [List.findIdx?_eq_none_iff]
   intro f hfm
   obtain ⟨j,hj,rfl⟩:=List.getElem_of_mem hfm
   exact hal j hj (by omega)]
  refine cd_exit (xE (xE (xY (xT (cQ (sA Z (sK [4] Z (cT ?_))))))))
  exact xt_rt Z ⟨Z,Z⟩ sbq
def kidx (l:KS) (c:Nm):Option Nat:=l.findIdx? fun x=>x.name == c
set_option maxRecDepth 100000 in
theorem findR_ct (hv : ksysR S v l) (c : Nm) : Reads Tryz.prog 49 #[v, sv c] [S] (.int .i64 (ixD (kidx l c))) := by
 have hml:maxLen=9223372036854775807:=rfl
 obtain ⟨a,cap,rfl,hlc,hcm,_⟩:=id hv
 refine ct_of (n:=20) Tryz.func49 Z Z (len Z) fun hr w0=>?_
 refine cQ (sA Z (sN (nT (cS (cQ (sA Z (sN (nT (cB (cd_lq (σ := Nat) (fun i=>[(0,.slice a l.length cap),(1,sv c),(5,.int .i64 (i:Nat))]) (fun _=>S::hr) (fun i=>i≤l.length∧∀ j (hj:j<l.length),j<i→((l[j]).name == c)=false) (fun i=>l.length - i) 0 ⟨Nat.zero_le _,fun j _ hj=>absurd hj (Nat.not_lt_zero _)⟩ ?_))))))))))
 rintro i ⟨hi,hal⟩
 refine cS (cQ (sM Z (sM Z (sV (v_len Z Tryz.underlying22) (sV (v_lss Z Z) (sK [0,1,5,9] Z (cC Z (fun hd=>?_) (fun hd=>?_))))))))
 ·have hlt:i<l.length:=by simpa using hd
  obtain ⟨b,o,cap2,us,e1,_,hrd,d,f,pv,c2,fa,fc,i2,rfl,hone,_⟩:=Row.at hv (List.getElem?_eq_getElem hlt)
  cases e1
  refine cK (xT (cS (cB (cQ (sM Z (sM Z (sV (vI (k:=i) Z Z sl22 Z hlt Z) (sV (vF Z fa54_0 Z) (sV (vY Z ld9) ?_)))))))))
  refine sM Z (sV (v_seql Z Z) (sK [0,1,5,18] Z (cC Z (fun he=>?_) (fun he=>?_))))
  ·rw [show kidx l c=some i by
    unfold kidx
    rw [List.findIdx?_eq_some_iff_getElem]
    exact ⟨hlt,he,fun j hj=>by rw [hal j (by omega) hj]; decide⟩]
   refine cQ (sM Z (sA Z (sK [4] Z (cT (xW (xR (xR (xW (xR ?_)))))))))
   exact xt_rt Z ⟨Z,Z⟩ sbq
  ·refine cK (xB (xT (cR (sM Z (sV (v_add Z Z (by unfold I64 at *; omega)) (sA Z (sN (nK [0,1,5] Z (nx_xt (xt_aq (i+1) ⟨hlt,fun j hj hj2=>?_⟩ (Nat.sub_lt_sub_left hlt (Nat.lt_succ_self i))))))))))))
   by_cases hji:j=i
   ·subst hji; exact he
   ·exact hal j hj (by omega)
 ·have hil:i=l.length:=by
   have:¬ i<l.length:=by simpa using hd
   omega
  rw [show kidx l c=none by
   unfold kidx
   rw [List.findIdx?_eq_none_iff]
   intro f hfm
   obtain ⟨j,hj,rfl⟩:=List.getElem_of_mem hfm
   exact hal j hj (by omega)]
  refine cd_exit (xE (xE (xY (xT (cQ (sA Z (sK [4] Z (cT ?_))))))))
  exact xt_rt Z ⟨Z,Z⟩ sbq
end
end Go.Hr
namespace Go.Hr
open Go Go.RowKit Go.Ck Go.Proofs Go.Proofs.YtaohbfnepjjdgaaGreat Fx
attribute [local irreducible] Go.Ck.Sub St Cd Xt Nx DrL LsW
def wV (mb:Nat) (va:Option Addr) (vn vc:Nat):Value:=.agg #[.map (some mb),.slice va vn vc]
section
variable {S N:Res} {v:Value} {F:List Fm} {l:KS} {m:List (Bs×Value)} {mb:Nat} {s t:Kt} {va:Option Addr} {vc:Nat}
def isU (l:KS) (c b:Nm):Bool:=(b == root || c == b) || (decide (rightE (ksys l) [c,b]=0) && has (ksys l) c b)
set_option maxRecDepth 100000 in
theorem is_ct (hv : ksysR S (.slice va l.length vc) l) (c b : Nm) : Reads Tryz.prog 162 #[wV mb va l.length vc, sv c, sv b] [S] (.bool (isU l c b)) := by
 have hs:sysR S (.slice va l.length vc) (ksys l):=hv.sys
 unfold wV isU
 refine ct_of (n:=29) Tryz.func162 Z Z (len Z) fun hr w0=>?_
 refine cQ (st_bx Z Z fun b3=>?_)
 refine sA Z (sK [1,2,3,6] Z (cS (cQ (sM Z (sV (v_seql Z Z) (sM Z (st_cut (k:=7) (d:=15) (v:=.bool (b == root || c == b)) (fun hcut=>bool_want (b:=(b == root)) false (fun hg=>?_) (fun hg=>?_)) ?_)))))))
 ·refine st_sk Z Z hg ?_
  iterate 2 refine st_sk rfl rfl hg ?_
  refine sV (vQ (bO Z hg) Z) ?_
  exact hcut _ uG
 ·refine sG Z (bG Z hg) (vM Z) (sG Z (bG Z hg) (vM Z) (sG Z (bG Z hg) (v_seql Z Z) (sV (vP (bO Z hg) Z) ?_)))
  exact hcut _ uG
 refine sK [1,2,3,6,15] Z (cC Z (fun hq=>?_) (fun hq=>?_))
 ·rw [show (b == root || c == b)=true from hq,Bool.true_or]
  refine cQ (sA Z (sK [6] Z (cT (xR ?_))))
  exact xt_rt Z ⟨Z,Z⟩ sbq
 ·rw [show (b == root || c == b)=false from hq,Bool.false_or]
  refine cK (xT (cQ (sV (vF Z fa85_1 Z) (sV (vY Z ld22) ?_))))
  refine sM Z (sM Z (st_cl Z Z en175 Z (Is_ct hs c b) ?_))
  rintro u h' ⟨rfl,rfl⟩
  simp only [lC,lN]
  refine sM Z (sV (v_extract Z Z) (sV (v_extract Z Z) (sA Z (sA Z (sK [6,7,8] Z (cQ (sM Z (sM Z (st_cut (k:=5) (d:=28) (v:=.bool ((decide (rightE (ksys l) [c,b]=0) && has (ksys l) c b) && (rightE (ksys l) [c,b] == 0))) (fun hcut=>bool_want (b:=(decide (rightE (ksys l) [c,b]=0) && has (ksys l) c b)) true (fun hg=>?_) (fun hg=>?_)) ?_)))))))))
  ·refine st_sk Z Z hg ?_
   refine st_sk Z Z hg ?_
   refine sV (vP (bO Z hg) Z) ?_
   exact hcut _ uG
  ·refine sG Z (bG Z hg) (vM Z) (sG Z (bG Z hg) (v_eql Z Z) (sV (vQ (bO Z hg) Z) ?_))
   exact hcut _ uG
  refine sA Z (sK [6] Z (cT ?_))
  rw [show ((decide (rightE (ksys l) [c,b]=0) && has (ksys l) c b) && (rightE (ksys l) [c,b] == 0))=(decide (rightE (ksys l) [c,b]=0) && has (ksys l) c b) by
   by_cases h:rightE (ksys l) [c,b]=0 <;> simp [h]]
  exact xt_rt Z ⟨Z,Z⟩ sbq
def actB (l:KS) (c b:Nm):Bool:=((c == b) || (b == root)) || (!(c == root) && isU l c b)
theorem actB_under (hR : Right (ksys l)) {c b : Nm} (hc : c = root ∨ isC (ksys l) c = true) (hb : b = root ∨ isC (ksys l) b = true) : actB l c b = under l c b := by
 unfold actB under
 by_cases h1:b=root
 ·subst h1; simp
 ·have hb := hb.resolve_left h1
  by_cases h2:c=root
  ·subst h2
   have:¬ root=b:=fun e=>h1 e.symm
   simp [h1,this]
  ·have hc:=hc.resolve_left h2
   have hr:rightE (ksys l) [c,b]=0:=rightE_zero.2 ⟨hR,fun n hn=>by
    rcases List.mem_cons.1 hn with rfl | hn
    ·exact hc
    ·simp at hn; subst hn; exact hb⟩
   unfold isU
   rw [hr]
   by_cases h3:c=b
   ·subst h3; simp [h2,has_refl]
   ·have e1:(c == b)=false:=beq_eq_false_iff_ne.2 h3
    have e2:(b == root)=false:=beq_eq_false_iff_ne.2 h1
    have e3:(c == root)=false:=beq_eq_false_iff_ne.2 h2
    have e4:(c != root)=true:=bne_iff_ne.2 h2
    rw [e1,e2,e3,e4]; simp
theorem actE_one {a:Kt} {b:Nm} (h:((isNmd a && !a.void) && !a.sep)=false):actE l F a b=8:=by
 unfold actE
 rw [if_pos]
 cases h1:isNmd a <;> cases h2:a.void <;> cases h3:a.sep <;> simp_all
theorem actE_two {a:Kt} {b:Nm} (h:((isNmd a && !a.void) && !a.sep)=true):actE l F a b=if a.inner l F≠0 then a.inner l F else if under l (ctName F a) b=false then 8 else 0:=by
 unfold actE
 rw [if_neg]
 simp only [Bool.and_eq_true,Bool.not_eq_true'] at h
 simp [h.1.1,h.1.2,h.2]
theorem errB {b:Bool} {e:Int} (h:(if b=true then (0:Int) else e)≠0):b=false∧(if b=true then (0:Int) else e)=e:=by
 cases b with
 | true=>exact absurd rfl h
 | false=>exact ⟨rfl,rfl⟩
theorem errB0 {b:Bool} {e:Int} (he:e≠0) (h:(if b=true then (0:Int) else e)=0):b=true:=by
 cases b with
 | true=>rfl
 | false=>exact absurd h he
theorem actual_of (h : HRight l) (hM : KMap S m l) (hv : ksysR S (.slice va l.length vc) l) {x : KC} {c : Nm} (hc : kfind l c = some x) {f : Fm} (hb : f.bound = root ∨ isC (ksys l) f.bound = true) {xa : Option Addr} {xn xc : Nat}
  (hI:Cpe Tryz.prog 194 102 #[wV mb va l.length vc,sv c,.agg (tyC t (.slice xa xn xc)).toArray] [mps mb m,S] (t.inner l x.formals)) :
  Cpe Tryz.prog 194 138 #[wV mb va l.length vc,sv c,.agg (tyC t (.slice xa xn xc)).toArray,.agg (fmA f).toArray] [mps mb m,S] (actE l x.formals t f.bound):=by
 have hxl:=(kfind_some hc).2
 have hI2:=hI
 have his := @is_ct S l mb va vc hv
 have hcl := @classType_ct S l m mb t hM c va l.length vc xa xn xc
 rw [fmsOf_some hc] at hcl
 have hisn := @isNamed_ct t xa xn xc
 obtain ⟨ya,yn,yc,hcv⟩:∃ ya yn yc,ctV t (.slice xa xn xc) = .slice ya yn yc:=by
  unfold ctV
  split
  ·exact ⟨_,_,_,Z⟩
  ·exact ⟨_,_,_,Z⟩
 rw [hcv] at hcl
 unfold wV tyC at hI2
 unfold tyC at hisn
 unfold fmA
 unfold wV at his ⊢
 unfold tyC at hcl ⊢
 refine cpe_of (n:=58) Tryz.func138 Z Z (len Z) fun hr w0=>?_
 refine cQ (st_bx Z Z fun b4=>?_)
 refine st_bx Z Z fun b6=>?_
 refine st_bx Z Z fun b7=>?_
 refine sK [1,4,6,7] Z (cS (cd_regP (sV (v_ldn Z ld25 Z rds_pt) ?_)))
 refine st_clr Z Z en112 Z (hisn) ?_
 refine sM Z (st_cutP (k:=7) (d:=16) (v:=.bool (isNmd t && !t.void)) (fun hcut=>bool_want (b:=(isNmd t)) true (fun hg=>?_) (fun hg=>?_)) ?_)
 ·refine st_sk Z Z hg ?_
  iterate 2 refine st_sk rfl rfl hg ?_
  refine sV (vP (bO Z hg) Z) ?_
  exact hcut _ uG
 ·refine sG Z (bG Z hg) (vF Z fa25_3 Z) (sG Z (bG Z hg) (vY Z ld4) ?_)
  refine sG Z (bG Z hg) (v_not Z) (sV (vQ (bO Z hg) Z) ?_)
  exact hcut _ uG
 refine sM Z (st_cutP (k:=12) (d:=21) (v:=.bool ((isNmd t && !t.void) && !t.sep)) (fun hcut=>bool_want (b:=(isNmd t && !t.void)) true (fun hg=>?_) (fun hg=>?_)) ?_)
 ·refine st_sk Z Z hg ?_
  iterate 2 refine st_sk rfl rfl hg ?_
  refine sV (vP (bO Z hg) Z) ?_
  exact hcut _ uG
 ·refine sG Z (bG Z hg) (vF Z fa25_4 Z) (sG Z (bG Z hg) (vY Z ld4) ?_)
  refine sG Z (bG Z hg) (v_not Z) (sV (vQ (bO Z hg) Z) ?_)
  exact hcut _ uG
 refine sN (nx_pan Z Z en100 Z (must_ct (by decide:(8:Int)≠0)) (fun hp0=>?_) (fun hp1=>by (repeat (first | refine xp_then ?_ | refine xp_block ?_)); exact xt_panE' hp1 (by rw [(errB hp1).2]; exact actE_one (errB hp1).1) (sbq)))
 refine (nK [1,4,6,7] Z (nT (cS (cd_regP ?_))))
 have hb1:=errB0 (by decide:(8:Int)≠0) hp0
 rw [actE_two hb1]
 refine sV (v_ldn Z ld85 Z rds_pt) ?_
 refine sM Z (sV (v_ldn Z ld25 Z rds_pt) ?_)
 refine sN (nx_pan Z Z en102 Z (hI2) (fun hp0=>?_) (fun hp1=>by (repeat (first | refine xp_then ?_ | refine xp_block ?_)); exact xt_panE' hp1 (by rw [if_pos hp1]) (sbq)))
 refine (nK [1,4,6,7] Z (nT (cQ ?_)))
 rw [if_neg (by simpa using hp0)]
 have hn:isNmd t=true:=by simp only [Bool.and_eq_true] at hb1; exact hb1.1.1
 have hkn:=(ctK_name (F:=x.formals) (nmd_iff.1 hn)).1
 have hcc:ctName x.formals t=root∨isC (ksys l) (ctName x.formals t)=true:=by
  rcases h.ct hxl hp0 hn with ⟨g,_⟩ | ⟨y,hy,_⟩
  ·exact .inl g
  ·exact .inr (by rw [← kfind_isC,hy]; rfl)
 rw [← actB_under h.right hcc hb]
 rw [← hkn]
 generalize ctK x.formals t=k at *
 unfold actB
 refine sV (v_ldn Z ld85 Z rds_pt) ?_
 refine sM Z (sV (v_ldn Z ld25 Z rds_pt) ?_)
 refine st_clr Z Z en76 Z (hcl) ?_
 refine sM Z (sV (v_extract Z Z) (sV (v_extract Z Z) (st_alc al25 fun b8=>?_)))
 refine st_stoW Z Z sz25 Z Z ?_
 refine sA Z (sK [4,7,8] Z (cd_regP (sV (vF Z fa25_1 Z) (sV (vY Z ld9) ?_))))
 refine sV (vF Z fa94_1 Z) (sV (vY Z ld9) ?_)
 refine sV (v_seql Z Z) (sM Z (st_cutP (k:=10) (d:=43) (v:=.bool (k.name == f.bound || f.bound == root)) (fun hcut=>bool_want (b:=(k.name == f.bound)) false (fun hg=>?_) (fun hg=>?_)) ?_))
 ·refine st_sk Z Z hg ?_
  iterate 2 refine st_sk rfl rfl hg ?_
  refine sV (vQ (bO Z hg) Z) ?_
  exact hcut _ uG
 ·refine sG Z (bG Z hg) (vF Z fa94_1 Z) (sG Z (bG Z hg) (vY Z ld9) ?_)
  refine sG Z (bG Z hg) (v_seql Z Z) (sV (vP (bO Z hg) Z) ?_)
  exact hcut _ uG
 refine sM Z (st_cutP (k:=23) (d:=56) (v:=.bool ((k.name == f.bound || f.bound == root) || (!(k.name == root) && isU l k.name f.bound))) (fun hcut=>bool_want (b:=(k.name == f.bound || f.bound == root)) false (fun hg=>?_) (fun hg=>?_)) ?_)
 ·refine st_sk Z Z hg ?_
  iterate 3 refine st_sk rfl rfl hg ?_
  refine st_sku Z Z ?_
  refine st_sku Z Z ?_
  refine st_sku Z Z ?_
  refine st_sku Z Z ?_
  refine st_sku Z Z ?_
  refine st_sku Z Z ?_
  refine st_sk Z Z hg ?_
  refine sV (vQ (bO Z hg) Z) ?_
  exact hcut _ uG
 ·refine sG Z (bG Z hg) (vF Z fa25_1 Z) (sG Z (bG Z hg) (vY Z ld9) ?_)
  refine sG Z (bG Z hg) (v_sneq Z Z) (sG Z (bG Z hg) (vM Z) (st_cutP (k:=22) (d:=55) (v:=.bool (!(k.name == root) && isU l k.name f.bound)) (fun hcut=>bool_want (b:=(!(k.name == root))) true (fun hg1=>?_) (fun hg1=>?_)) ?_))
  ·refine st_sk Z Z hg1 ?_
   iterate 5 refine st_sk rfl rfl hg1 ?_
   refine sG Z (bG Z hg) (vP (bO Z hg1) Z) ?_
   exact hcut _ (uH (by first | rfl | (rw [hg1]; rfl) | simp_all) (uS Z (uS Z (uS Z (uS Z (uS Z (uS Z (uR))))))))
  ·refine sG Z (bG Z hg1) (v_ldn Z ld85 Z rds_pt) ?_
   refine sG Z (bG Z hg1) (vF Z fa25_1 Z) (sG Z (bG Z hg1) (vY Z ld9) ?_)
   refine sG Z (bG Z hg1) (vF Z fa94_1 Z) (sG Z (bG Z hg1) (vY Z ld9) ?_)
   refine st_clrg Z (bG Z hg1) Z Z en162 Z ((his k.name f.bound)) ?_
   refine sG Z (bG Z hg) (vQ (bO Z hg1) Z) ?_
   exact hcut _ (uH (by first | rfl | (rw [hg1]; rfl) | simp_all) (uS Z (uS Z (uS Z (uS Z (uS Z (uS Z (uR))))))))
  refine sV (vP (bO Z hg) Z) ?_
  exact hcut _ (uH (by first | rfl | (rw [hg]; rfl) | simp_all) (by repeat (first | exact uR | refine uS Z ?_)))
 refine sN (nx_pan Z Z en100 Z (must_ct (by decide:(8:Int)≠0)) (fun hp0=>?_) (fun hp1=>by (repeat (first | refine xp_then ?_ | refine xp_block ?_)); exact xt_panE' hp1 (by rw [(errB hp1).2,if_pos (errB hp1).1]) (sbq)))
 refine (nK [] Z (nx_xt ?_))
 exact xt_rtE (by rw [if_neg (by rw [errB0 (by decide:(8:Int)≠0) hp0]; decide)]) Z (.inl Z) (sbq)
end
end Go.Hr
