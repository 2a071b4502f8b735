/- Walks of single functions. No conditions. -/
import Derived.Test.YtomehhepbeiinaaGreatDoorQA0
import Derived.KernelRfl
set_option maxRecDepth 100000
set_option maxHeartbeats 4000000
set_option linter.all false
def kR{p:Prop}(h:p:=by kernel_rfl):p:=h
def oG{p:Prop}(h:p:=by omega):p:=h
def dC{p:Prop}(h:p:=by decide):p:=h
def sP{p:Prop}(h:p:=by simp):p:=h
