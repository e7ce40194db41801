/-
  What is done to names: comparing,length,one sign,the least of two; the number of a map's entries. Generic: nothing of the program is named here. No condition.
  A range over a name's signs. Generic: nothing of the program is named here. No condition.
  The rules once more,with what a tactic finds by itself left out: shorter texts. Generic: nothing of the program is named here. No condition.
  Parts of a function's code,served by theorems of their own. Generic: nothing of the program is named here. No condition.
  Loops and rounds,with a quicker search for what is kept. Generic: nothing of the program is named here. No condition.
  Laws: what the arguments of a law read as,deep data as Lean data; the same reading behind the call. Generic: nothing of the program is named here. No condition.
  Laws: from a contract to what a statement of a law asks. Generic: nothing of the program is named here. No condition.
-/
import Derived.Test.YtaohbfnepjjdgaaGreatM4
import Derived.ProofKit
import Derived.OpenShut
set_option linter.unusedVariables false
set_option linter.unusedSimpArgs false
namespace Go.Ck
open Go Go.RowKit
theorem size_bs (a:Bs):(⟨⟨a⟩⟩:ByteArray).size=a.length:=rfl
theorem toList_bs (a:Bs):(⟨⟨a⟩⟩:ByteArray).toList=a:=ByteArray.toList_eq _
section
variable {P:Program} {e:Env} {h h':SH} {ty:TypeId}
theorem v_seql {t t':TypeId} {x y:Operand} {a b:Bs} (hx:e.ev? x=some (sv a)) (hy:e.ev? y=some (sv b)):Vop P e h (.binOp .eql t x y t') ty (.bool (a == b)):=
 ⟨by simp,by simp,fun ρ w d pos after g hρ _=>by simp [execOp,hρ x _ hx,hρ y _ hy,eqGuard,binOp,Op.stringOp,toList_bs]⟩
theorem v_sneq {t t':TypeId} {x y:Operand} {a b:Bs} (hx:e.ev? x=some (sv a)) (hy:e.ev? y=some (sv b)):Vop P e h (.binOp .neq t x y t') ty (.bool (!(a == b))):=
 ⟨by simp,by simp,fun ρ w d pos after g hρ _=>by simp [execOp,hρ x _ hx,hρ y _ hy,eqGuard,binOp,Op.stringOp,toList_bs]⟩
theorem v_slss {t t':TypeId} {x y:Operand} {a b:Bs} (hx:e.ev? x=some (sv a)) (hy:e.ev? y=some (sv b)):Vop P e h (.binOp .lss t x y t') ty (.bool (Op.bytesLess a b)):=
 ⟨by simp,by simp,fun ρ w d pos after g hρ _=>by simp [execOp,hρ x _ hx,hρ y _ hy,eqGuard,binOp,Op.stringOp,toList_bs]⟩
theorem v_sgtr {t t':TypeId} {x y:Operand} {a b:Bs} (hx:e.ev? x=some (sv a)) (hy:e.ev? y=some (sv b)):Vop P e h (.binOp .gtr t x y t') ty (.bool (!(Op.bytesLess a b || a == b))):=
 ⟨by simp,by simp,fun ρ w d pos after g hρ _=>by simp [execOp,hρ x _ hx,hρ y _ hy,eqGuard,binOp,Op.stringOp,toList_bs]⟩
theorem v_slen {t ty':TypeId} {x:Operand} {a:Bs} (hx:e.ev? x=some (sv a)) (ht:P.underlying t=some .string):Vop P e h (.call { callee:=.builtin .len,args := #[x],argTypes := #[t] }) ty' (.int .i64 a.length):=
 ⟨by simp,by simp,fun ρ w d pos after g hρ _=>by simp [execOp,resolve,invoke,builtin,hρ x _ hx,Builtin.len_,run_underlying ht,goInt,size_bs,-ByteArray.size_data]⟩
theorem v_sindex {T : TypeId} {x y : Operand} {a : Bs} {k : Nat} {kd : IntKind} {i : Int} {u : UInt8} (hx : e.ev? x = some (sv a)) (hy : e.ev? y = some (.int kd i)) (hT : P.underlying T = some .string) (hi : i = (k : Int)) (hu : a[k]? = some u) :
  Vop P e h (.index T x y) ty (.int .u8 u.toNat):=
 ⟨by simp,by simp,fun ρ w d pos after g hρ _=>by
  subst hi
  have h1:(⟨⟨a⟩⟩:ByteArray)[k]? = some u:=by
   have hlt:=(List.getElem?_eq_some_iff.1 hu).1
   have h2:k<(⟨⟨a⟩⟩:ByteArray).size:=hlt
   obtain ⟨_,h3⟩:=List.getElem?_eq_some_iff.1 hu
   rw [getElem?_pos (⟨⟨a⟩⟩:ByteArray) k h2,← h3]; rfl
  have h0:(0:Int)≤k:=by omega
  simp [execOp,hρ x _ hx,hρ y _ hy,Instr.index,asIntOf,run_underlying hT,h1]⟩
theorem v_smin {ty':TypeId} {x y:Operand} {ts:Array TypeId} {a b:Bs} (hx:e.ev? x=some (sv a)) (hy:e.ev? y=some (sv b)):Vop P e h (.call { callee:=.builtin .min,args := #[x,y],argTypes:=ts }) ty' (sv (if Op.bytesLess a b || a == b then a else b)):=
 ⟨by simp,by simp,fun ρ w d pos after g hρ _=>by
  simp [execOp,resolve,invoke,builtin,hρ x _ hx,hρ y _ hy,Builtin.min_,Builtin.min2,Op.stringOp,toList_bs,asBool]
  split <;> simp⟩
theorem v_mlen {t ty' K E : TypeId} {x : Operand} {b : Nat} {m : List (Bs × Value)} (hx : e.ev? x = some (.map (some b))) (ht : P.underlying t = some (.map K E)) (hs : Sel h (mps b m) h') :
  Vop P e h (.call { callee:=.builtin .len,args := #[x],argTypes := #[t] }) ty' (.int .i64 m.length):=
 ⟨by simp,by simp,fun ρ w d pos after g hρ hh=>by
  obtain ⟨es,ck,h1,h2,_⟩:=(hh.sel hs).1
  have hg:(getObj b).run P w = .ok (.map es ck) w:=run_getObj_map h1
  have hl:es.size=m.length:=by
   have:=congrArg List.length h2
   simpa [senc] using this
  simp [execOp,resolve,invoke,builtin,hρ x _ hx,Builtin.len_,run_underlying ht,goInt,hg,hl]⟩
end
end Go.Ck
namespace Go.Ck
open Go Go.RowKit
section
variable {c:Cx} {ops:Array Oper} {K:Act→World→Prop} {rest:List Oper} {e:Env} {h h' hr:SH}
theorem st_srange {d:Nat} {T ty:TypeId} {x:Operand} {pos:String} {after:Array Edge} {a:Bs} (hx:e.ev? x=some (sv a)) (hT:c.P.underlying T=some .string) (hd:d<c.n)
  (hnx:∀ b,St c ops K rest ((d,.pointer (some ⟨b,0,none⟩))::e) (pt b (.stringIter ⟨⟨a⟩⟩ 0)::h)) :
  St c ops K (⟨some d,.range T x,ty,pos,after,none⟩::rest) e h :=
 st_any (by simp) fun act w hk hh hw=>by
  simp only [execOp,Instr.range,hk.ev hx,Sem.run_bind,run_underlying hT,Result.andThen_ok,Sem.run_pure,run_newObj_alloc]
  exact hnx _ _ _ (hk.put _ hd) (Holds.alloc hh _) (hw.trans (Grew.alloc _ _ rfl).toSame)
theorem st_snext0 {d:Nat} {ty:TypeId} {x:Operand} {pos:String} {after:Array Edge} {a:Bs} {b p:Nat} (hx:e.ev? x=some (.pointer (some ⟨b,0,none⟩))) (hs:Sel h (pt b (.stringIter ⟨⟨a⟩⟩ p)) h') (hp:a.length≤p) (hd:d<c.n)
  (hnx:St c ops K rest ((d,.tuple #[.bool false])::e) h) :
  St c ops K (⟨some d,.next x true,ty,pos,after,none⟩::rest) e h :=
 st_any (by simp) fun act w hk hh hw=>by
  have hg:w.heap[b]? = some (.stringIter ⟨⟨a⟩⟩ p):=(hh.sel hs).1
  have hgo:(getObj b).run c.P w = .ok (.stringIter ⟨⟨a⟩⟩ p) w:=by simp [getObj,Sem.run,hg]
  have hlt:¬ p<(⟨⟨a⟩⟩:ByteArray).size:=by rw [size_bs]; omega
  simp only [execOp,Instr.next,hk.ev hx,Sem.run_bind,hgo,Result.andThen_ok,if_neg hlt,Sem.run_pure]
  exact hnx _ _ (hk.put _ hd) hh hw
theorem st_snext {d:Nat} {ty:TypeId} {x:Operand} {pos:String} {after:Array Edge} {a:Bs} {b p:Nat} (hx:e.ev? x=some (.pointer (some ⟨b,0,none⟩))) (hs:Sel h (pt b (.stringIter ⟨⟨a⟩⟩ p)) h') (hp:p<a.length) (hd:d<c.n)
  (hnx:St c ops K rest ((d,.tuple #[.bool true,.int .i64 p,.int .i32 (Utf8.decode ⟨⟨a⟩⟩ p).1])::e) (pt b (.stringIter ⟨⟨a⟩⟩ (p+(Utf8.decode ⟨⟨a⟩⟩ p).2))::h')) :
  St c ops K (⟨some d,.next x true,ty,pos,after,none⟩::rest) e h :=
 st_any (by simp) fun act w hk hh hw=>by
  have hh':=hh.sel hs
  have hg:w.heap[b]? = some (.stringIter ⟨⟨a⟩⟩ p):=hh'.1
  have hgo:(getObj b).run c.P w = .ok (.stringIter ⟨⟨a⟩⟩ p) w:=by simp [getObj,Sem.run,hg]
  have hlt:p<(⟨⟨a⟩⟩:ByteArray).size:=by rw [size_bs]; omega
  have hset:∀ o,(setObj b o).run c.P w = .ok () (w.putObj b o):=fun o=>by simp [setObj,Sem.run,hg,World.putObj]
  simp only [execOp,Instr.next,hk.ev hx,Sem.run_bind,hgo,Result.andThen_ok,if_pos hlt,Sem.run_pure,hset]
  refine hnx _ _ (hk.put _ hd) (Holds.putObj hh' _) (hw.trans (Same.putObj w b _ hg rfl rfl))
end
theorem dec_ascii {a:Bs} {p:Nat} {u:UInt8} (hu:a[p]? = some u) (h:u.toNat<128):Utf8.decode ⟨⟨a⟩⟩ p=(u.toNat,1):=by
 have hg:(⟨⟨a⟩⟩:ByteArray).get! p=u:=by
  obtain ⟨hl,he⟩:=List.getElem?_eq_some_iff.1 hu
  show (⟨a⟩:Array UInt8)[p]! = u
  rw [getElem!_pos (⟨a⟩:Array UInt8) p hl]; exact he
 unfold Utf8.decode
 simp only [Nat.add_zero,hg,h,if_true]
theorem dec_other {a : Bs} {p : Nat} {u : UInt8} (hu : a[p]? = some u) (h : 128 ≤ u.toNat) : 128 ≤ (Utf8.decode ⟨⟨a⟩⟩ p).1 := by
 have hg:(⟨⟨a⟩⟩:ByteArray).get! p=u:=by
  obtain ⟨hl,he⟩:=List.getElem?_eq_some_iff.1 hu
  show (⟨a⟩:Array UInt8)[p]! = u
  rw [getElem!_pos (⟨a⟩:Array UInt8) p hl]; exact he
 unfold Utf8.decode
 simp only [Nat.add_zero,hg,show ¬ u.toNat<128 by omega,if_false,Utf8.runeError]
 split
 ·split
  ·show 128≤_; assumption
  ·show 128≤0xFFFD; omega
 ·split
  ·split
   ·rename_i _ _ hc
    have:=(Bool.and_eq_true _ _ ▸ hc:_∧_).1
    simp at this
    show 128≤_; omega
   ·show 128≤0xFFFD; omega
  ·split
   ·split
    ·rename_i _ _ _ hc
     have:=(Bool.and_eq_true _ _ ▸ hc:_∧_).1
     simp at this
     show 128≤_; omega
    ·show 128≤0xFFFD; omega
   ·show 128≤0xFFFD; omega
section
variable {c:Cx} {ops:Array Oper} {K:Act→World→Prop} {rest:List Oper} {e:Env} {h:SH}
theorem st_grd {d:Option Nat} {op:Op} {ty:TypeId} {pos:String} {after:Array Edge} {g gd:Nat} {want:Bool} (hg:((ops[g]?).bind (·.dst))=some gd) (hgv:e.get? gd=some (.bool want)) (hn:St c ops K (⟨d,op,ty,pos,after,none⟩::rest) e h) :
  St c ops K (⟨d,op,ty,pos,after,some (g,want)⟩::rest) e h:=fun a w hk hh hw=>by
 have h1:=hn a w hk hh hw
 unfold LsW at h1 ⊢
 have e1:Region.wanted (⟨d,op,ty,pos,after,none⟩:Oper) (yielded ops a.tmps)=true:=by simp [Region.wanted]
 have e2:Region.wanted (⟨d,op,ty,pos,after,some (g,want)⟩:Oper) (yielded ops a.tmps)=true:=by simp [Region.wanted,yields_guard hg hgv hk]
 rw [if_pos e1] at h1
 rw [if_pos e2]
 exact h1
end
end Go.Ck
namespace Go.Ck
open Go
section
variable {P:Program} {e:Env} {h:SH} {ty:TypeId}
end
section
variable {c:Cx} {ops:Array Oper} {K:Act→World→Prop} {rest:List Oper} {e:Env} {h h' hr:SH}
theorem sV {d:Nat} {op:Op} {ty:TypeId} {pos:String} {after:Array Edge} {v:Value} (hv:Vop c.P e h op ty v) (hn:St c ops K rest ((d,v)::e) h) (hd:d<c.n:=by exact ltn rfl) :
  St c ops K (⟨some d,op,ty,pos,after,none⟩::rest) e h:=st_val hv hd hn
theorem sG {d g gd:Nat} {op:Op} {ty:TypeId} {pos:String} {after:Array Edge} {v:Value} {want:Bool} (hg:((ops[g]?).bind (·.dst))=some gd) (hgv:e.get? gd=some (.bool want))
  (hv:Vop c.P e h op ty v) (hn:St c ops K rest ((d,v)::e) h) (hd:d<c.n:=by exact ltn rfl):St c ops K (⟨some d,op,ty,pos,after,some (g,want)⟩::rest) e h:=st_valg hg hgv hv hd hn
theorem st_sk {d g gd:Nat} {op:Op} {ty:TypeId} {pos:String} {after:Array Edge} {want b:Bool} (hg:((ops[g]?).bind (·.dst))=some gd) (hgv:e.get? gd=some (.bool b)) (hb:b = !want)
  (hn:St c ops K rest ((d,undef)::e) h) (hd:d<c.n:=by exact ltn rfl):St c ops K (⟨some d,op,ty,pos,after,some (g,want)⟩::rest) e h:=st_skip hg hgv hb hd hn
theorem st_cl {d:Nat} {f:Operand} {az:Array Operand} {ts:Array TypeId} {ty:TypeId} {pos:String} {after:Array Edge} {k:FuncId} {fi cp:Array Value} {vs:List Value} {args:Array Value} {hf:SH} {R:Value→SH→Prop}
  (hv:e.ev? f=some (.func (.func k) fi cp)) (has:az.toList.mapM e.ev? = some vs) (hE:Enters c.P k) (ha:fi++vs.toArray++cp=args) (ct:Ct c.P k args hf R)
  (hn:∀ v h',R v h'→St c ops K rest ((d,v)::e) (h'++hr)) (pk:Pk h hf hr:=by repeat (first | exact Pk.nil | (apply Pk.cons; (repeat (first | exact Sel.here | apply Sel.there))))) (hd:d<c.n:=by exact ltn rfl) :
  St c ops K (⟨some d,.call { callee:=.value f,args:=az,argTypes:=ts },ty,pos,after,none⟩::rest) e h:=st_call hv has hE ha ct pk hd hn
theorem st_clr {d:Nat} {f:Operand} {az:Array Operand} {ts:Array TypeId} {ty:TypeId} {pos:String} {after:Array Edge} {k:FuncId} {fi cp:Array Value} {vs:List Value} {args:Array Value} {hf:SH} {v:Value}
  (hv:e.ev? f=some (.func (.func k) fi cp)) (has:az.toList.mapM e.ev? = some vs) (hE:Enters c.P k) (ha:fi++vs.toArray++cp=args) (ct:Reads c.P k args hf v)
  (hn:St c ops K rest ((d,v)::e) h) (pk:Pk h hf hr:=by repeat (first | exact Pk.nil | (apply Pk.cons; (repeat (first | exact Sel.here | apply Sel.there))))) (hd:d<c.n:=by exact ltn rfl) :
  St c ops K (⟨some d,.call { callee:=.value f,args:=az,argTypes:=ts },ty,pos,after,none⟩::rest) e h:=st_callr hv has hE ha ct pk hd hn
theorem st_clrg {d g gd:Nat} {f:Operand} {az:Array Operand} {ts:Array TypeId} {ty:TypeId} {pos:String} {after:Array Edge} {k:FuncId} {fi cp:Array Value} {vs:List Value} {args:Array Value} {hf:SH} {v:Value} {want:Bool}
  (hg:((ops[g]?).bind (·.dst))=some gd) (hgv:e.get? gd=some (.bool want))
  (hv:e.ev? f=some (.func (.func k) fi cp)) (has:az.toList.mapM e.ev? = some vs) (hE:Enters c.P k) (ha:fi++vs.toArray++cp=args) (ct:Reads c.P k args hf v)
  (hn:St c ops K rest ((d,v)::e) h) (pk:Pk h hf hr:=by repeat (first | exact Pk.nil | (apply Pk.cons; (repeat (first | exact Sel.here | apply Sel.there))))) (hd:d<c.n:=by exact ltn rfl) :
  St c ops K (⟨some d,.call { callee:=.value f,args:=az,argTypes:=ts },ty,pos,after,some (g,want)⟩::rest) e h:=st_callrg hg hgv hv has hE ha ct pk hd hn
theorem st_sto {T E:TypeId} {x y:Operand} {ty:TypeId} {pos:String} {after:Array Edge} {b off:Nat} {l l':List Value} {v:Value} {k:SH}
  (hx:e.ev? x=some (.pointer (some ⟨b,off,none⟩))) (hy:e.ev? y=some v) (hT:Sz c.P T 1) (hn:St c ops K rest e (pt b (cl l' E)::k))
  (hv:v.oneCell'=true:=by first | rfl | assumption) (hs:Sel h (pt b (cl l E)) k:=by repeat (first | exact Sel.here | apply Sel.there)) (ho:off<l.length:=by first | exact ltn rfl | assumption | (simp only [List.length_append,ints_length,bools_length]; omega) | omega) (hl:SetAt l off v l':=by first | (repeat (first | exact SetAt.zero | apply SetAt.succ)); done | exact SetAt.set) :
  St c ops K (⟨none,.store T x y,ty,pos,after,none⟩::rest) e h:=st_store hx hy hT hv hs ho hl hn
theorem st_stoW {T E:TypeId} {x y:Operand} {ty:TypeId} {pos:String} {after:Array Edge} {b n:Nat} {l vs:List Value} {k:SH}
  (hx:e.ev? x=some (.pointer (some ⟨b,0,none⟩))) (hy:e.ev? y=some (.agg vs.toArray)) (hT:Sz c.P T n) (hn:vs.length=n) (h1:vs.all Value.oneCell'=true)
  (hnx:St c ops K rest e (pt b (cl vs E)::k)) (hs:Sel h (pt b (cl l E)) k:=by repeat (first | exact Sel.here | apply Sel.there)) (hl:l.length=vs.length:=by exact rfl) :
  St c ops K (⟨none,.store T x y,ty,pos,after,none⟩::rest) e h:=st_storeW hx hy hT hn (ones h1) hs hl hnx
theorem st_alc {d:Nat} {T ty:TypeId} {pos:String} {after:Array Edge} {zs:List Value} (hA:Al c.P T zs)
  (hn:∀ b,St c ops K rest ((d,.pointer (some ⟨b,0,none⟩))::e) (pt b (cl zs T)::h)) (hd:d<c.n:=by exact ltn rfl):St c ops K (⟨some d,.alloc T,ty,pos,after,none⟩::rest) e h:=st_alloc hA hd hn
theorem st_bx {d:Nat} {T ty:TypeId} {x:Operand} {pos:String} {after:Array Edge} {v:Value} {zs:List Value} (hx:e.ev? x=some v) (hz:v.cells=zs.toArray)
  (hn:∀ b,St c ops K rest ((d,.pointer (some ⟨b,0,none⟩))::e) (pt b (cl zs T)::h)) (hd:d<c.n:=by exact ltn rfl):St c ops K (⟨some d,.box T x,ty,pos,after,none⟩::rest) e h:=st_box hx hz hd hn

/-! In a region that draws its order. -/
variable {pre:Nat→Bool} {hC:SH} {t:Ord}
theorem dr_v {i d:Nat} {op:Op} {ty:TypeId} {pos:String} {after:Array Edge} {v:Value} (hi:ops[i]? = some ⟨some d,op,ty,pos,after,none⟩) (hv:Vop c.P e hC op ty v)
  (hn:DrL c ops pre hC K t ((d,v)::e) h) (hs:Sub hC h:=by repeat (first | exact Sub.refl _ | exact Sub.nil _ | refine Sub.sel slq ?_ | apply Sub.cons)) (hd:d<c.n:=by exact ltn rfl):DrL c ops pre hC K (.cons (i,true) t) e h:=dr_val hi hs hv hd hn
theorem dr_vg {i d g gd:Nat} {op:Op} {ty:TypeId} {pos:String} {after:Array Edge} {v:Value} {want:Bool} (hi:ops[i]? = some ⟨some d,op,ty,pos,after,some (g,want)⟩) (hg:((ops[g]?).bind (·.dst))=some gd) (hgv:e.get? gd=some (.bool want))
  (hv:Vop c.P e hC op ty v) (hn:DrL c ops pre hC K t ((d,v)::e) h) (hs:Sub hC h:=by repeat (first | exact Sub.refl _ | exact Sub.nil _ | refine Sub.sel slq ?_ | apply Sub.cons)) (hd:d<c.n:=by exact ltn rfl):DrL c ops pre hC K (.cons (i,true) t) e h:=dr_valg hi hg hgv hs hv hd hn
theorem dr_sk {i d g gd:Nat} {op:Op} {ty:TypeId} {pos:String} {after:Array Edge} {want b:Bool} (hi:ops[i]? = some ⟨some d,op,ty,pos,after,some (g,want)⟩) (hg:((ops[g]?).bind (·.dst))=some gd) (hgv:e.get? gd=some (.bool b)) (hb:b = !want)
  (hn:DrL c ops pre hC K t ((d,undef)::e) h) (hs:Sub hC h:=by repeat (first | exact Sub.refl _ | exact Sub.nil _ | refine Sub.sel slq ?_ | apply Sub.cons)) (hd:d<c.n:=by exact ltn rfl):DrL c ops pre hC K (.cons (i,true) t) e h:=dr_skip hi hg hgv hb hs hd hn
theorem dV {i d:Nat} {op:Op} {ty:TypeId} {pos:String} {after:Array Edge} {v:Value} (hi:ops[i]? = some ⟨some d,op,ty,pos,after,none⟩) (hv:Vop c.P e [] op ty v)
  (hn:DrL c ops pre hC K t ((d,v)::e) h) (hd:d<c.n:=by exact ltn rfl):DrL c ops pre hC K (.pure i t) e h:=drp_val hi hv hd hn
theorem dp_vg {i d g gd:Nat} {op:Op} {ty:TypeId} {pos:String} {after:Array Edge} {v:Value} {want:Bool} (hi:ops[i]? = some ⟨some d,op,ty,pos,after,some (g,want)⟩) (hg:((ops[g]?).bind (·.dst))=some gd) (hgv:e.get? gd=some (.bool want))
  (hv:Vop c.P e [] op ty v) (hn:DrL c ops pre hC K t ((d,v)::e) h) (hd:d<c.n:=by exact ltn rfl):DrL c ops pre hC K (.pure i t) e h:=drp_valg hi hg hgv hv hd hn
theorem dp_sk {i d g gd:Nat} {op:Op} {ty:TypeId} {pos:String} {after:Array Edge} {want b:Bool} (hi:ops[i]? = some ⟨some d,op,ty,pos,after,some (g,want)⟩) (hg:((ops[g]?).bind (·.dst))=some gd) (hgv:e.get? gd=some (.bool b)) (hb:b = !want)
  (hn:DrL c ops pre hC K t ((d,undef)::e) h) (hd:d<c.n:=by exact ltn rfl):DrL c ops pre hC K (.pure i t) e h:=drp_skip hi hg hgv hb hd hn
theorem dr_clr {i d:Nat} {f:Operand} {az:Array Operand} {ts:Array TypeId} {ty:TypeId} {pos:String} {after:Array Edge} {k:FuncId} {fi cp:Array Value} {vs:List Value} {args:Array Value} {hf hr:SH} {v:Value}
  (hi:ops[i]? = some ⟨some d,.call { callee:=.value f,args:=az,argTypes:=ts },ty,pos,after,none⟩)
  (hv:e.ev? f=some (.func (.func k) fi cp)) (has:az.toList.mapM e.ev? = some vs) (hE:Enters c.P k) (ha:fi++vs.toArray++cp=args) (ct:Reads c.P k args hf v)
  (hn:DrL c ops pre hC K t ((d,v)::e) h) (hs:Sub hC h:=by repeat (first | exact Sub.refl _ | exact Sub.nil _ | refine Sub.sel slq ?_ | apply Sub.cons)) (pk:Pk hC hf hr:=by repeat (first | exact Pk.nil | (apply Pk.cons; (repeat (first | exact Sel.here | apply Sel.there))))) (hd:d<c.n:=by exact ltn rfl):DrL c ops pre hC K (.cons (i,true) t) e h:=dr_call hi hs hv has hE ha ct pk hd hn
theorem dr_clrg {i d g gd:Nat} {f:Operand} {az:Array Operand} {ts:Array TypeId} {ty:TypeId} {pos:String} {after:Array Edge} {k:FuncId} {fi cp:Array Value} {vs:List Value} {args:Array Value} {hf hr:SH} {v:Value} {want:Bool}
  (hi:ops[i]? = some ⟨some d,.call { callee:=.value f,args:=az,argTypes:=ts },ty,pos,after,some (g,want)⟩) (hg:((ops[g]?).bind (·.dst))=some gd) (hgv:e.get? gd=some (.bool want))
  (hv:e.ev? f=some (.func (.func k) fi cp)) (has:az.toList.mapM e.ev? = some vs) (hE:Enters c.P k) (ha:fi++vs.toArray++cp=args) (ct:Reads c.P k args hf v)
  (hn:DrL c ops pre hC K t ((d,v)::e) h) (hs:Sub hC h:=by repeat (first | exact Sub.refl _ | exact Sub.nil _ | refine Sub.sel slq ?_ | apply Sub.cons)) (pk:Pk hC hf hr:=by repeat (first | exact Pk.nil | (apply Pk.cons; (repeat (first | exact Sel.here | apply Sel.there))))) (hd:d<c.n:=by exact ltn rfl):DrL c ops pre hC K (.cons (i,true) t) e h:=dr_callg hi hg hgv hs hv has hE ha ct pk hd hn
theorem dr_nx {i:Nat} {h0:SH} (hn:DrL c ops pre hC K t e h) (hs:pre i=true→Sub hC h0→Sub hC h:=by first | (intro hq; cases hq; done) | (intro _ hs; exact hs) | (intro _ hs; refine Sub.trans hs ?_; (repeat (first | exact Sub.refl _ | exact Sub.nil _ | refine Sub.sel slq ?_ | apply Sub.cons)); done) | (intro _ _; (repeat (first | exact Sub.refl _ | exact Sub.nil _ | refine Sub.sel slq ?_ | apply Sub.cons)); done)):St c ops (EffK c ops pre hC K i t h0) [] e h:=dr_nextR hs hn
/-! Remembered slots. -/
def kept (e:Env):List Nat→Option Env
 | []=>some []
 | k::ks=>match e.get? k with
  | some v=>(kept e ks).map ((k,v) :: ·)
  | none=>none
theorem kept_sub {e : Env} : ∀ {ks : List Nat} {e' : Env}, kept e ks = some e' → Env.sub e' e
 | [],e',h=>by simp only [kept,Option.some.injEq] at h; subst h; trivial
 | k::ks,e',h=>by
  simp only [kept] at h
  cases hg:e.get? k with
  | none=>rw [hg] at h; cases h
  | some v =>
   rw [hg] at h
   simp only [Option.map_eq_some_iff] at h
   obtain ⟨t,h1,rfl⟩:=h
   exact ⟨hg,kept_sub h1⟩
theorem nK (ks:List Nat) {e':Env} (hk:kept e ks=some e') (hn:Nx c K e' h):Nx c K e h:=hn.weaken (kept_sub hk)
variable {Q:Exit→Act→World→Prop}
end
section
variable {P:Program} {n:Nat} {w0:World} {fn:Func} {e:Env} {h hr h':SH} {R:Value→SH→Prop} {r:Option Nat} {vs:List Value}
theorem xt_rt (hv:e.res? fn.results.toList=some vs) (hR:R (outOf vs) h') (hp:Sub (h'++hr) h:=by first | (rw [List.nil_append]; (repeat (first | exact Sub.refl _ | apply Sub.cons)); done) | (repeat (first | exact Sub.refl _ | exact Sub.nil _ | refine Sub.sel slq ?_ | apply Sub.cons))):Xt ⟨P,r,n,[],w0⟩ .ret (bodyPost P fn (Post w0 hr R)) e h:=xt_ret hv hR hp
theorem xt_en (hv:e.res? fn.results.toList=some vs) (hR:R (outOf vs) h') (hp:Sub (h'++hr) h:=by first | (rw [List.nil_append]; (repeat (first | exact Sub.refl _ | apply Sub.cons)); done) | (repeat (first | exact Sub.refl _ | exact Sub.nil _ | refine Sub.sel slq ?_ | apply Sub.cons))):Xt ⟨P,r,n,[],w0⟩ .normal (bodyPost P fn (Post w0 hr R)) e h:=xt_end hv hR hp
end
theorem Z {α : Sort _} {a : α}:a=a:=Eq.refl a
theorem lC {α : Type _} {a : α} {as bs:List α}:(a::as)++bs=a::(as++bs):=rfl
theorem lN {α : Type _} {as:List α}:([]:List α)++as=as:=rfl
theorem uG {e e':Env} {d:Nat} {u v:Value} (hv:u=v:=by first | rfl | (rw [hg]; rfl) | simp_all) (h:SSub e e':=by repeat (first | exact uR | refine uS rfl ?_)):SSub ((d,u)::e) ((d,v)::e'):=uH hv h
section
variable {c:Cx} {ops:Array Oper} {K:Act→World→Prop} {rest:List Oper} {e:Env} {h:SH} {Q:Exit→Act→World→Prop}
theorem sM {d:Nat} {x:Operand} {ty:TypeId} {pos:String} {after:Array Edge} {v:Value} (hv:e.ev? x=some v) (hn:St c ops K rest ((d,v)::e) h) (hd:d<c.n:=by exact ltn rfl):St c ops K (⟨some d,.move x,ty,pos,after,none⟩::rest) e h:=sV (vM hv) hn hd
theorem sA {d:Nat} {x:Operand} {ty:TypeId} {pos:String} {after:Array Edge} {v:Value} (hv:e.ev? x=some v) (hn:St c ops K rest ((d,v)::e) h) (hd:d<c.n:=by exact ltn rfl):St c ops K (⟨some d,.assign x,ty,pos,after,none⟩::rest) e h:=sV (vA hv) hn hd
theorem sK (ks:List Nat) {e':Env} {y:Code} (hk:kept e ks=some e') (hy:Cd c y Q e' h):St c ops (Exit.then (Behind c y Q) Q .normal) [] e h:=sN (nK ks hk (nT hy))
theorem cQ {id:Nat} {l:List Oper} {y:Code} (hs:St c l.toArray (Exit.then (Behind c y Q) Q .normal) l e h):Cd c (.seq (.region id l.toArray false) y) Q e h:=cS (cR hs)
end
end Go.Ck
namespace Go.Ck
open Go
def fbody (f:Func):Code:=f.body.getD .skip
def cdl:Code→Code
 | .seq a _=>a
 | .block _ x=>x
 | .loop x=>x
 | .scope x=>x
 | .cond _ a _=>a
 | c=>c
def cdr:Code→Code
 | .seq _ b=>b
 | .cond _ _ b=>b
 | c=>c
section
variable {c:Cx} {Q:Exit→Act→World→Prop} {e e':Env} {h h':SH} {ex:Exit} {x:Code}
end

/-! ## A guard that has no value: skipped -/
section
variable {c:Cx} {ops:Array Oper} {K:Act→World→Prop} {rest:List Oper} {e:Env} {h hC:SH} {pre:Nat→Bool} {t:Ord}
theorem yields_undef {g gd:Nat} (hg:((ops[g]?).bind (·.dst))=some gd) (hgv:e.get? gd=some undef) {n:Nat} {ds:List Deferred} {a:Act} (hk:Kn n ds a e):yielded ops a.tmps g=none:=by
 unfold yielded
 cases ho:ops[g]? with
 | none=>simp [ho] at hg
 | some o=>simp only [ho,Option.bind_some] at hg; simp [hg,hk.get gd _ hgv,undef]
theorem st_sku {d g gd:Nat} {op:Op} {ty:TypeId} {pos:String} {after:Array Edge} {want:Bool} (hg:((ops[g]?).bind (·.dst))=some gd) (hgv:e.get? gd=some undef)
  (hn:St c ops K rest ((d,undef)::e) h) (hd:d<c.n:=by exact ltn rfl):St c ops K (⟨some d,op,ty,pos,after,some (g,want)⟩::rest) e h:=fun a w hk hh hs=>by
 unfold LsW
 rw [if_neg (by simp [Region.wanted,yields_undef hg hgv hk])]
 exact hn _ w (hk.put undef hd) hh hs
end
end Go.Ck
namespace Go.Ck
open Go
section
variable {c:Cx} {Q:Exit→Act→World→Prop} {e:Env} {h:SH}
theorem cd_lq {σ : Type} {x:Code} (E : σ → Env) (H : σ → SH) (Φ : σ → Prop) (μ : σ → Nat) (s0 : σ) (h0 : Φ s0) (hr:∀ s,Φ s→Cd c x (Exit.then (Again c E H Φ μ s) Q) (E s) (H s))
  (hs:Env.sub (E s0) e:=by repeat (first | exact trivial | refine ⟨rfl,?_⟩)) (hp:Sub (H s0) h:=by (repeat (refine Sub.sel slq ?_)); (repeat apply Sub.cons); first | exact Sub.refl _ | exact Sub.nil _):Cd c (.loop x) Q e h:=cd_loop E H Φ μ s0 h0 hs hp hr
theorem xt_aq {σ : Type} {E : σ → Env} {H : σ → SH} {Φ : σ → Prop} {μ : σ → Nat} {s : σ} (s' : σ) (h1 : Φ s') (h2 : μ s' < μ s) (hs:Env.sub (E s') e:=by repeat (first | exact trivial | refine ⟨rfl,?_⟩)) (hp:Sub (H s') h:=by (repeat (refine Sub.sel slq ?_)); (repeat apply Sub.cons); first | exact Sub.refl _ | exact Sub.nil _) :
  Xt c .normal (Exit.then (Again c E H Φ μ s) Q) e h:=xt_again s' h1 h2 hs hp
end
theorem xt_law {P:Program} {r:Option Nat} {n:Nat} {w0:World} {fn:Func} {e:Env} {h hr:SH} {S:Res} (hv:e.res? fn.results.toList=some [.bool true]) (hp:Sub ([S]++hr) h):Xt ⟨P,r,n,[],w0⟩ .ret (bodyPost P fn (Post w0 hr fun u h'=>u = .bool true∧h'=[S])) e h:=xt_ret hv ⟨rfl,rfl⟩ hp
end Go.Ck
namespace Go.Ck
open Go Go.RowKit Go.ChangeShapes Go.WideShapes
inductive Ty where
 | int (k:IntKind)
 | bool
 | str
 | slice (t:Ty)
 | struct (fs:List Ty)
 | any (n:Nat) (L:List TypeId)
mutual
def Ty.D:Ty→Type
 | .int _=>Int
 | .bool=>Bool
 | .str=>ByteArray
 | .slice t=>List (Ty.D t)
 | .struct fs=>Ty.Ds fs
 | .any _ _=>Unit
def Ty.Ds:List Ty→Type
 | []=>Unit
 | t::ts=>Ty.D t×Ty.Ds ts
end
mutual
def Ty.sz:Ty→Nat
 | .int _=>1
 | .bool=>1
 | .str=>1
 | .slice _=>1
 | .struct fs=>Ty.szs fs
 | .any n _=>n
def Ty.szs:List Ty→Nat
 | []=>0
 | t::ts=>Ty.sz t+Ty.szs ts
end
mutual
def Rep (r : Res) : (t : Ty) → List Value → t.D → Prop
 | .int k,cs,n=>cs=[.int k n]∧(Lit.int k n).wf=true
 | .bool,cs,b=>cs=[.bool b]
 | .str,cs,s=>cs=[.string s]∧s.size≤maxLen
 | .slice t,cs,l=>∃ a cap,cs=[.slice a (List.length l) cap]∧List.length l≤cap∧cap≤maxLen∧(a=none→cap=0) ∧
   (l=([]:List t.D)∨∃ b o,a=some ⟨b,o,none⟩∧∀ (i:Nat) (x:t.D),@getElem? (List t.D) Nat t.D _ _ l i=some x→∃ us:List Value,us.length=t.sz∧Rds r b (o+i * t.sz) us∧Rep r t us x)
 | .struct fs,cs,x=>Reps r fs cs x
 | .any n _,cs,_=>cs.length=n
def Reps (r:Res):(fs:List Ty)→List Value→Ty.Ds fs→Prop
 | [],cs,_=>cs=[]
 | t::ts,cs,(x,xs)=>∃ u us,cs=u++us∧u.length=t.sz∧Rep r t u x∧Reps r ts us xs
end
def closedB (P:Program) (L:List TypeId):Bool:=L.all fun t=>match P.underlying t with
 | some (.int _)=>true
 | some .bool=>true
 | some .string=>true
 | some (.slice e)=>L.contains e && Nat.ble 1 (P.cellsOf e)
 | some (.struct fs)=>fs.toList.all fun f=>L.contains f.type
 | _=>false
def structB (P:Program) (t:TypeId):Bool:=match P.underlying t with
 | some (.struct _)=>true
 | _=>false
mutual
def fitB (P:Program):Ty→TypeId→Bool
 | .int k,t=>match P.underlying t with | some (.int k')=>decide (k'=k) | _=>false
 | .bool,t=>match P.underlying t with | some .bool=>true | _=>false
 | .str,t=>match P.underlying t with | some .string=>true | _=>false
 | .slice u,t=>match P.underlying t with | some (.slice e)=>Nat.beq (P.cellsOf e) u.sz && Nat.ble 1 u.sz && fitB P u e | _=>false
 | .struct fs,t=>match P.underlying t with | some (.struct gs)=>Nat.beq (P.cellsOf t) (Ty.szs fs) && fitsB P fs gs.toList 0 | _=>false
 | .any n L,t=>closedB P L && L.contains t && Nat.beq (P.cellsOf t) n && structB P t
def fitsB (P:Program):List Ty→List Field→Nat→Bool
 | [],[],_=>true
 | t::ts,f::fs,off=>Nat.beq f.offset off && Nat.beq (P.cellsOf f.type) t.sz && fitB P t f.type && fitsB P ts fs (off+t.sz)
 | _,_,_=>false
end

section
variable {H:Type} {enc:TypeId×Value→H} {P:Program} {W:World} {held:Bool} {sp:Nat→Bool}
theorem cells?_at {base:Nat} {a:Addr} {n:Nat} {cs:List Value} (h:W.cells? base a n=some cs):cs.length=n∧∀ i,(hi:i<cs.length)→W.cell? (a.add i)=some cs[i]:=by
 obtain ⟨_,h1,h2⟩:=World.cells?_some h
 exact ⟨h1,fun i hi=>by rw [h2 i (by omega),List.getElem?_eq_getElem hi]⟩
theorem cell_spot {a : Addr} {v : Value} (h : W.cell? a = some v) : a.spot = none ∧ a.block < W.heap.size := by
 unfold World.cell? at h
 cases hq:W.heap[a.block]? with
 | none=>rw [hq] at h; cases h
 | some o =>
  rw [hq] at h
  have hb:=(Array.getElem?_eq_some_iff.1 hq).1
  cases o with
  | cells c t f =>
   by_cases hs:a.spot.isSome=true
   ·simp [hs] at h
   ·exact ⟨by simpa using hs,hb⟩
  | _=>cases h

theorem cells?_same {W' : World} (hb : ∀ b, b < W.heap.size → W'.heap[b]? = W.heap[b]?) {base : Nat} {a : Addr} {n : Nat} {cs : List Value} (h : W.cells? base a n = some cs) : W'.cells? base a n = some cs := by
 cases n with
 | zero=>unfold World.cells? at h ⊢; simpa using h
 | succ n =>
  obtain ⟨h1,h2⟩:=cells?_at h
  have h3:=h2 0 (by omega)
  have hbl:a.block<W.heap.size:=by
   have:=(cell_spot h3).2
   simpa [Addr.add] using this
  have:∀ i,W'.cell? (a.add i)=W.cell? (a.add i):=fun i=>World.cell?_of_block (hb _ (by unfold Addr.add; split <;> exact hbl))
  unfold World.cells? at h ⊢
  simp only [this]; exact h
theorem mapM_same {α β : Type} {f g : α → Option β}:∀ {l:List α} {ys:List β},l.mapM f=some ys→(∀ x y,x∈l→y∈ys→f x=some y→g x=some y)→l.mapM g=some ys
 | [],ys,h,_=>by simpa using h
 | a::l,ys,h,hfg=>by
  simp only [List.mapM_cons,Option.bind_eq_bind,Option.bind_eq_some_iff,Option.pure_def,Option.some.injEq] at h
  obtain ⟨y,h1,zs,h2,rfl⟩:=h
  simp only [List.mapM_cons,Option.bind_eq_bind,Option.bind_eq_some_iff,Option.pure_def,Option.some.injEq]
  exact ⟨y,hfg a y (by simp) (by simp) h1,zs,mapM_same h2 fun x z hx hz=>hfg x z (by simp [hx]) (by simp [hz]),Z⟩
theorem reread_any {W' : World} (hb : ∀ b, b < W.heap.size → W'.heap[b]? = W.heap[b]?) {L : List TypeId} (hL : closedB P L = true) : ∀ (n : Nat) (t : TypeId) (cs : List Value) (x : DataW H × List MemPlace), t ∈ L → DataW.trod enc P W 0 (fun _ => true) held n t cs = some x →
  (∀ p∈x.2,sp p.block=true)→DataW.trod enc P W' 0 sp held n t cs=some x
 | 0,t,cs,x,ht,h,_=>by simp [DataW.trod] at h
 | n + 1, t, cs, x, ht, h, hsp => by
  have hcl:=List.all_eq_true.1 hL t ht
  cases hu:P.underlying t with
  | none=>rw [hu] at hcl; cases hcl
  | some d =>
   rw [hu] at hcl
   cases d with
   | int k =>
    obtain ⟨q,rfl,rfl,h3⟩:=DataW.trod_int hu h
    simp [DataW.trod,hu,h3]
   | bool =>
    obtain ⟨q,rfl,rfl⟩:=DataW.trod_bool hu h
    simp [DataW.trod,hu]
   | string =>
    obtain ⟨q,rfl,rfl,h3⟩:=DataW.trod_string hu h
    simp [DataW.trod,hu,h3]
   | slice e =>
    simp only [Bool.and_eq_true] at hcl
    have he:e∈L:=by simpa using hcl.1
    have hp:1≤P.cellsOf e:=Nat.le_of_ble_eq_true hcl.2
    rcases DataW.trod_slice hu h with ⟨rfl,rfl⟩ | ⟨a,len,cap,_,_,_,_,rfl,_⟩
    ·simp [DataW.trod,hu]
    ·unfold DataW.trod at h ⊢
     rw [hu] at h ⊢
     simp only at h ⊢
     split at h
     ·rename_i hcond
      rw [if_pos hcond]
      simp only [if_true,Option.bind_eq_some_iff,Option.map_eq_some_iff] at h
      obtain ⟨elems,h1,rest,h2,rfl⟩:=h
      simp only [List.mem_append,List.mem_flatMap] at hsp
      have hstep:∀ i y,y∈elems++rest→(W.cells? 0 (a.add (i * P.cellsOf e)) (P.cellsOf e)).bind (DataW.trod enc P W 0 (fun _=>true) held n e)=some y→(W'.cells? 0 (a.add (i * P.cellsOf e)) (P.cellsOf e)).bind (DataW.trod enc P W' 0 sp held n e)=some y:=fun i y hy hb'=>by
       rw [Option.bind_eq_some_iff] at hb' ⊢
       obtain ⟨us,g1,g2⟩:=hb'
       exact ⟨us,cells?_same hb g1,reread_any hb hL n e us y he g2 fun p hp'=>hsp p (.inr ⟨y,List.mem_append.1 hy,hp'⟩)⟩
      have e1:(List.range len).mapM (fun i=>(W'.cells? 0 (a.add (i * P.cellsOf e)) (P.cellsOf e)).bind (DataW.trod enc P W' 0 sp held n e))=some elems:=mapM_same h1 fun i y _ hy g=>hstep i y (List.mem_append_left _ hy) g
      have e2:(List.range (cap - len)).mapM (fun j=>(W'.cells? 0 (a.add ((len+j) * P.cellsOf e)) (P.cellsOf e)).bind (DataW.trod enc P W' 0 sp held n e))=some rest:=mapM_same h2 fun i y _ hy g=>hstep (len+i) y (List.mem_append_right _ hy) g
      rw [e1]
      simp only [Option.bind_some]
      by_cases hs:sp a.block=true
      ·rw [if_pos hs,e2]; rfl
      ·rw [if_neg hs]
       have hr : rest = [] := by
        cases rest with
        | nil=>rfl
        | cons y ys =>
         exfalso
         apply hs
         have:=hsp (MemPlace.cell a.block a.off) (.inl ?_)
         ·exact this
         ·unfold MemPlace.row
          refine List.mem_map.2 ⟨0,?_,by simp [Addr.add]⟩
          rw [List.mem_range]
          simp only [List.length_cons]
          exact Nat.mul_pos (by omega) (by omega)
       subst hr; rfl
     ·cases h
   | struct gs =>
    rw [List.all_eq_true] at hcl
    unfold DataW.trod at h ⊢
    rw [hu] at h ⊢
    simp only at h ⊢
    split at h
    ·rename_i hl
     rw [if_pos hl]
     rw [Option.map_eq_some_iff] at h ⊢
     obtain ⟨xs,h1,rfl⟩:=h
     refine ⟨xs,mapM_same h1 fun g y hg hy h2=>?_,Z⟩
     exact reread_any hb hL n g.type _ y (by simpa using hcl g hg) h2 fun p hp=>hsp p (List.mem_flatMap.2 ⟨y,hy,hp⟩)
    ·cases h
   | _=>cases hcl
mutual
theorem reread_of {W' : World} (hb : ∀ b, b < W.heap.size → W'.heap[b]? = W.heap[b]?) : (ty : Ty) → ∀ (t : TypeId) (n : Nat) (cs : List Value) (x : DataW H × List MemPlace), fitB P ty t = true → DataW.trod enc P W 0 (fun _ => true) held n t cs = some x →
  (∀ p∈x.2,sp p.block=true)→DataW.trod enc P W' 0 sp held n t cs=some x
 | .int k, t, n, cs, x, hf, h, _ => by
  unfold fitB at hf
  cases n with
  | zero=>simp [DataW.trod] at h
  | succ n =>
   cases hu:P.underlying t with
   | none=>rw [hu] at hf; cases hf
   | some d =>
    rw [hu] at hf
    cases d <;> try (cases hf; done)
    obtain ⟨q,rfl,rfl,h3⟩:=DataW.trod_int hu h
    simp [DataW.trod,hu,h3]
 | .bool, t, n, cs, x, hf, h, _ => by
  unfold fitB at hf
  cases n with
  | zero=>simp [DataW.trod] at h
  | succ n =>
   cases hu:P.underlying t with
   | none=>rw [hu] at hf; cases hf
   | some d =>
    rw [hu] at hf
    cases d <;> try (cases hf; done)
    obtain ⟨q,rfl,rfl⟩:=DataW.trod_bool hu h
    simp [DataW.trod,hu]
 | .str, t, n, cs, x, hf, h, _ => by
  unfold fitB at hf
  cases n with
  | zero=>simp [DataW.trod] at h
  | succ n =>
   cases hu:P.underlying t with
   | none=>rw [hu] at hf; cases hf
   | some d =>
    rw [hu] at hf
    cases d <;> try (cases hf; done)
    obtain ⟨q,rfl,rfl,h3⟩:=DataW.trod_string hu h
    simp [DataW.trod,hu,h3]
 | .slice u, t, n, cs, x, hf, h, hsp => by
  unfold fitB at hf
  cases hu:P.underlying t with
  | none=>rw [hu] at hf; cases hf
  | some d =>
   rw [hu] at hf
   cases d <;> try (cases hf; done)
   rename_i e
   simp only [Bool.and_eq_true] at hf
   obtain ⟨⟨hc,hp⟩,he⟩:=hf
   have hc:P.cellsOf e=u.sz:=Nat.eq_of_beq_eq_true hc
   have hp:1≤u.sz:=Nat.le_of_ble_eq_true hp
   cases n with
   | zero=>simp [DataW.trod] at h
   | succ n =>
    rcases DataW.trod_slice hu h with ⟨rfl,rfl⟩ | ⟨a,len,cap,_,_,_,_,rfl,_⟩
    ·simp [DataW.trod,hu]
    ·unfold DataW.trod at h ⊢
     rw [hu] at h ⊢
     simp only at h ⊢
     split at h
     ·rename_i hcond
      rw [if_pos hcond]
      simp only [if_true,Option.bind_eq_some_iff,Option.map_eq_some_iff] at h
      obtain ⟨elems,h1,rest,h2,rfl⟩:=h
      simp only [List.mem_append,List.mem_flatMap] at hsp
      have hstep:∀ i y,y∈elems++rest→(W.cells? 0 (a.add (i * P.cellsOf e)) (P.cellsOf e)).bind (DataW.trod enc P W 0 (fun _=>true) held n e)=some y→(W'.cells? 0 (a.add (i * P.cellsOf e)) (P.cellsOf e)).bind (DataW.trod enc P W' 0 sp held n e)=some y:=fun i y hy hb'=>by
       rw [Option.bind_eq_some_iff] at hb' ⊢
       obtain ⟨us,g1,g2⟩:=hb'
       exact ⟨us,cells?_same hb g1,reread_of hb u e n us y he g2 fun p hp'=>hsp p (.inr ⟨y,List.mem_append.1 hy,hp'⟩)⟩
      have e1:(List.range len).mapM (fun i=>(W'.cells? 0 (a.add (i * P.cellsOf e)) (P.cellsOf e)).bind (DataW.trod enc P W' 0 sp held n e))=some elems:=mapM_same h1 fun i y _ hy g=>hstep i y (List.mem_append_left _ hy) g
      have e2:(List.range (cap - len)).mapM (fun j=>(W'.cells? 0 (a.add ((len+j) * P.cellsOf e)) (P.cellsOf e)).bind (DataW.trod enc P W' 0 sp held n e))=some rest:=mapM_same h2 fun i y _ hy g=>hstep (len+i) y (List.mem_append_right _ hy) g
      rw [e1]
      simp only [Option.bind_some]
      by_cases hs:sp a.block=true
      ·rw [if_pos hs,e2]; rfl
      ·rw [if_neg hs]
       have hr : rest = [] := by
        cases rest with
        | nil=>rfl
        | cons y ys =>
         exfalso
         apply hs
         have:=hsp (MemPlace.cell a.block a.off) (.inl ?_)
         ·exact this
         ·unfold MemPlace.row
          rw [hc]
          refine List.mem_map.2 ⟨0,?_,by simp [Addr.add]⟩
          rw [List.mem_range]
          simp only [List.length_cons]
          exact Nat.mul_pos (by omega) (by omega)
       subst hr; rfl
     ·cases h
 | .struct fs, t, n, cs, x, hf, h, hsp => by
  unfold fitB at hf
  cases hu:P.underlying t with
  | none=>rw [hu] at hf; cases hf
  | some d =>
   rw [hu] at hf
   cases d <;> try (cases hf; done)
   rename_i gs
   simp only [Bool.and_eq_true] at hf
   obtain ⟨hc,hfs⟩:=hf
   cases n with
   | zero=>simp [DataW.trod] at h
   | succ n =>
    unfold DataW.trod at h ⊢
    rw [hu] at h ⊢
    simp only at h ⊢
    split at h
    ·rename_i hl
     rw [if_pos hl]
     rw [Option.map_eq_some_iff] at h ⊢
     obtain ⟨xs,h1,rfl⟩:=h
     refine ⟨xs,?_,Z⟩
     exact rereads_of hb fs gs.toList 0 n cs xs hfs h1 fun y hy p hp=>hsp p (List.mem_flatMap.2 ⟨y,hy,hp⟩)
    ·cases h
 | .any k L,t,n,cs,x,hf,h,hsp=>by
  unfold fitB at hf
  simp only [Bool.and_eq_true] at hf
  obtain ⟨⟨⟨hL,ht⟩,_⟩,_⟩:=hf
  exact reread_any hb hL n t cs x (by simpa using ht) h hsp
theorem rereads_of {W':World} (hb:∀ b,b<W.heap.size→W'.heap[b]? = W.heap[b]?):(fs:List Ty)→∀ (gs:List Field) (off n:Nat) (cs:List Value) (xs:List (DataW H×List MemPlace)),fitsB P fs gs off=true →
  gs.mapM (fun f=>DataW.trod enc P W 0 (fun _=>true) held n f.type ((cs.drop f.offset).take (P.cellsOf f.type)))=some xs→(∀ y∈xs,∀ p∈y.2,sp p.block=true) →
  gs.mapM (fun f=>DataW.trod enc P W' 0 sp held n f.type ((cs.drop f.offset).take (P.cellsOf f.type)))=some xs
 | [],[],off,n,cs,xs,hf,h,_=>by simpa using h
 | [],g::gs,off,n,cs,xs,hf,h,_=>by simp [fitsB] at hf
 | t::ts,[],off,n,cs,xs,hf,h,_=>by simp [fitsB] at hf
 | t::ts,g::gs,off,n,cs,xs,hf,h,hsp=>by
  unfold fitsB at hf
  simp only [Bool.and_eq_true] at hf
  obtain ⟨⟨⟨h1,h2⟩,h3⟩,h4⟩:=hf
  simp only [List.mapM_cons,Option.bind_eq_bind,Option.bind_eq_some_iff,Option.pure_def,Option.some.injEq] at h ⊢
  obtain ⟨y,g1,zs,g2,rfl⟩:=h
  exact ⟨y,reread_of hb t g.type n _ y h3 g1 (hsp y (by simp)),zs,rereads_of hb ts gs (off+t.sz) n cs zs h4 g2 fun z hz=>hsp z (by simp [hz]),Z⟩
end
end
end Go.Ck
namespace Go.Ck
open Go Go.RowKit Go.ChangeShapes Go.WideShapes
theorem holds_old (W:World):Holds W [old W]:=⟨fun _ _=>rfl,fun _ _ h=>h,trivial⟩
structure Kept (W w':World):Prop extends Same W w' where
 block:∀ b,b<W.heap.size→w'.heap[b]? = W.heap[b]?
theorem kept_of {W w':World} {h:SH} (hh:Holds w' h) (hs:Sub [old W] h) (hS:Same W w'):Kept W w':=⟨hS,(hh.sub hs).1⟩
theorem Kept.frame {W w':World} (h:Kept W w') (may:MemPlace→Prop):W.keptBut w' may:=by
 refine ⟨h.os,h.output,fun i hi=>?_⟩
 rw [h.block i hi]
 cases hq:W.heap[i]? with
 | none=>rfl
 | some o=>cases o <;> first | exact ⟨rfl,rfl,rfl,fun _ _=>rfl⟩ | exact Or.inr ⟨rfl,rfl⟩ | rfl
theorem ct_calls {P:Program} {k:FuncId} {args:Array Value} {W:World} {R:Value→SH→Prop} (h:Ct P k args [old W] R) (hR:∀ v h',R v h'→v = .bool true∧Sub [old W] h'):Calls P k args W fun e w'=>e = .returned (.bool true)∧Kept W w' :=
 (h [] W (by simpa using holds_old W)).mono fun e w' ⟨v,h',he,hr,hH,hS⟩=>by
  obtain ⟨h1,h2⟩:=hR v h' hr
  exact ⟨by rw [he,h1],kept_of (by simpa using hH) h2 hS⟩
def fitAll (P:Program):List Ty→List TypeId→Bool
 | [],[]=>true
 | t::ts,u::us=>fitB P t u && fitAll P ts us
 | _,_=>false
section
variable {H:Type} {enc:TypeId×Value→H} {P:Program} {W W':World} {sp:Nat→Bool}
theorem rereadAll (hb:∀ b,b<W.heap.size→W'.heap[b]? = W.heap[b]?):∀ {tys:List Ty} {ts:List TypeId} {vs:List Value} {ds:List (DataW H)} {ps:List MemPlace},fitAll P tys ts=true→DataW.TrodAll enc P W 0 (fun _=>true) true ts vs ds ps→(∀ p∈ps,sp p.block=true) →
  DataW.TrodAll enc P W' 0 sp true ts vs ds ps
 | [],[],[],[],ps,_,h,_=>h
 | [],[],[],_::_,ps,_,h,_=>h.elim
 | [],[],_::_,_,ps,_,h,_=>h.elim
 | [],_::_,_,_,_,hf,_,_=>by simp [fitAll] at hf
 | _::_,[],_,_,_,hf,_,_=>by simp [fitAll] at hf
 | ty::tys,t::ts,[],_,ps,_,h,_=>h.elim
 | ty::tys,t::ts,_::_,[],ps,_,h,_=>h.elim
 | ty::tys,t::ts,v::vs,d::ds,ps,hf,h,hp=>by
  unfold fitAll at hf
  rw [Bool.and_eq_true] at hf
  obtain ⟨p,q,⟨n,h1⟩,h2,rfl⟩:=h
  exact ⟨p,q,⟨n,reread_of hb ty t n _ _ hf.1 h1 fun x hx=>hp x (List.mem_append_left _ hx)⟩,rereadAll hb hf.2 h2 fun x hx=>hp x (List.mem_append_right _ hx),Z⟩
theorem law_post {f:Func} {s:ChangeSpec} {args:Array Value} {ds gs:List (DataW H)} {before:List MemPlace} {tb:TypeId} {tys:List Ty} (hW:DataW.Whole enc P f.params.toList s.vars false W args.toList ds gs before)
  (hv:s.vars=[]) (hr:f.resultTypes = #[tb]) (htb:P.underlying tb=some .bool) (hf:fitAll P tys f.params.toList=true) (hfn:s.fn H (ds++gs)={ results:=[.lit (.bool true)],args:=ds }) (hk:Kept W W') :
  s.post enc P f false true false false W args (.bool true) W':=by
 have hW':=hW
 obtain ⟨p,q,hA,hV,rfl,hfz,hnd⟩:=hW
 rw [hv] at hV
 obtain ⟨rfl,rfl⟩:=trodVars_none hV
 have hres:∀ (b:Nat) (sp:Nat→Bool) (hd:Bool),DataW.TrodAll enc P W' b sp hd f.resultTypes.toList ((Value.bool true).resultList f.resultTypes.size) (s.fn H (ds++[])).results []:=fun b sp hd=>by
  rw [hr,hfn]
  exact trodAll_mk1 (shut_bool htb _)
 have hargs:∀ sp:Nat→Bool,(∀ x∈p++[],sp x.block=true)→DataW.TrodAll enc P W' 0 sp true f.params.toList args.toList (s.fn H (ds++[])).args p:=fun sp hsp=>by
  rw [hfn]
  exact rereadAll hk.block hf hA fun x hx=>hsp x (List.mem_append_left _ hx)
 have hvars:∀ sp:Nat→Bool,DataW.TrodVars enc P W' sp s.vars (s.fn H (ds++[])).vars []:=fun sp=>by rw [hv,hfn]; rfl
 have hold:∀ x∈p++[],(fun b=>decide (b<W.heap.size)) x.block=true:=fun x hx=>by simpa using hW'.lt x hx
 refine ⟨ds,[],p++[],[],p,[],hW',hres _ _ _,hargs _ hold,hvars _,World.keptBut_mono (fun x hx=>⟨hx,.inr (List.mem_append.1 hx)⟩) (hk.frame (· ∈ p++[])),fun _=>?_⟩
 refine ⟨ok_one hr Z (okWide_bool_mk htb _),_,_,([]++p)++[],⟨[]++p,[],trodAll_append (hargs _ fun _ _=>rfl) (hres _ _ _),hvars _,Z,fun b off hm=>?_,fun ha=>?_⟩,fun x hx _=>by simpa using hx⟩
 ·have hm':MemPlace.cell b off∈p++[]:=by simpa using hm
  rw [hk.fz _ (show b<W.heap.size from of_decide_eq_true (hold _ hm'))]
  exact hfz b off hm'
 ·simpa using hnd ha
theorem okWide_one {t : TypeId} {v : Value} {b : Nat} (hs : (match P.underlying t with | some (.struct _) | some (.array _ _) => false | some _ => true | none => false) = true) (h : Value.okWide P W .any b t v) : v.oneCell' = true := by
 unfold Value.okWide at h
 cases hu:P.underlying t with
 | none=>rw [hu] at hs; cases hs
 | some d =>
  rw [hu] at h hs
  cases d <;> first
   | (cases hs; done)
   | (cases v <;> first | rfl | (unfold Cell.okWide at h; rw [hu] at h; simp only [Cell.ok,hu] at h))
theorem okWide_agg {t:TypeId} {v:Value} {b:Nat} {fs:Array Field} (hs:P.underlying t=some (.struct fs)) (h:Value.okWide P W .any b t v):v = .agg v.cells:=by
 obtain ⟨cs,h1,_⟩:=okWide_struct hs h
 rw [h1]; rfl
end
end Go.Ck
